import Derived.Test.YtaojbkphcnailaaDoorJ2
import Derived.Test.YtaojbkphcnailaaDoorSxC
namespace Go.Proofs.YtaojbkphcnailaaDoor
open Go.Sx
set_option maxRecDepth 20000
set_option linter.unusedVariables false
namespace Po
inductive T where
  | mk (k:Int) (p:Pd.T) (f v:Int) (l:List T)
def T.k:T→Int | .mk k _ _ _ _=>k
def T.p:T→Pd.T | .mk _ p _ _ _=>p
def T.f:T→Int | .mk _ _ f _ _=>f
def T.v:T→Int | .mk _ _ _ v _=>v
def T.l:T→List T | .mk _ _ _ _ l=>l
mutual
def tot:T→Nat
  | .mk _ p _ _ l=>1+Pd.size p+totL l
def totL:List T→Nat
  | []=>0
  | x::l=>tot x+totL l
end
mutual
def size:T→Nat
  | .mk k p _ _ l=>1+(if k=2∨k=3∨k=4 then 0 else Pd.size p)+sizeL l
def sizeL:List T→Nat
  | []=>0
  | x::l=>size x+sizeL l
end
mutual
def deep:T→Nat
  | .mk _ _ _ _ l=>1+deepL l
def deepL:List T→Nat
  | []=>0
  | x::l=>max (deep x) (deepL l)
end
mutual
def wide:T→Nat
  | .mk k _ _ _ l=>if k=3 then wideS 1 l else if k=4 then wideU 0 l else if k=5 then wideI 0 l else 1
def wideS (n:Nat):List T→Nat
  | []=>n
  | x::l=>wideS (min (n*wide x) 1000) l
def wideU (n:Nat):List T→Nat
  | []=>n
  | x::l=>wideU (min (n+wide x) 1000) l
def wideI (n:Nat):List T→Nat
  | []=>n
  | x::l=>wideI (max n (wide x)) l
end
mutual
def same:T→T→Bool
  | .mk k p f v l,.mk k' p' f' v' l'=>decide (k=k')&&decide (f=f')&&decide (v=v')&&Pd.same p p'&&sameL l l'
def sameL:List T→List T→Bool
  | [],[]=>true
  | x::l,y::l'=>same x y&&sameL l l'
  | _,_=>false
end
def noneP:Pd.T:=.mk 0 0 0 []
def none (p:Pd.T):Bool:=Pd.same p noneP
def shape (k:Int) (p:Pd.T) (f v:Int) (n:Nat):Bool :=
  decide (k=1∧Pd.right p=true∧(f=0∧v=0)∧n=0∨k=2∧none p=true∧(0≤f∧f≤4)∧(0≤v∧v≤Pd.top f)∧n=0∨(k=3∨k=4)∧none p=true∧(f=0∧v=0)∧2≤n∧n≤8∨k=5∧Pd.right p=true∧(f=0∧v=0)∧n=2)
mutual
def fits:T→Bool
  | .mk k p f v l=>shape k p f v l.length&&fitsL l
def fitsL:List T→Bool
  | []=>true
  | x::l=>fits x&&fitsL l
end
def right (x:T):Bool:=fits x&&(decide (deep x≤8)&&(decide (size x≤64)&&decide (wide x≤64)))
theorem tot_mk (k:Int) (p:Pd.T) (f v:Int) (l:List T):tot (.mk k p f v l)=1+Pd.size p+totL l:=by rw [tot]
theorem tot_pos:∀ x:T,1≤tot x
  | .mk k p f v l=>by rw [tot];omega
theorem totL_append (a b:List T):totL (a++b)=totL a+totL b:=by
  induction a with
  | nil=>simp [totL]
  | cons p a ih=>simp only [List.cons_append,totL,ih];omega
theorem totL_le {l:List T}:∀ {k:Nat},totL (l.take k)≤totL l:=fun {k}=>by
  have:=totL_append (l.take k) (l.drop k)
  rw [List.take_append_drop] at this
  omega
theorem tot_lt {k:Int} {q:Pd.T} {f v:Int} {l:List T} {x:T} (h:x∈l):tot x<tot (.mk k q f v l):=by
  have:tot x≤totL l:=by
    induction l with
    | nil=>cases h
    | cons y l ih =>
      rw [totL]
      rcases List.mem_cons.1 h with rfl | h
      · omega
      · have:=ih h;omega
  rw [tot];omega
theorem length_le (l:List T):l.length≤totL l:=by
  induction l with
  | nil=>simp [totL]
  | cons p l ih=>have:=tot_pos p;rw [totL,List.length_cons];omega
theorem sizeL_append (a b:List T):sizeL (a++b)=sizeL a+sizeL b:=by
  induction a with
  | nil=>simp [sizeL]
  | cons p a ih=>simp only [List.cons_append,sizeL,ih];omega
theorem sizeL_take {l:List T} {k:Nat} (h:k<l.length):sizeL (l.take (k+1))=sizeL (l.take k)+size l[k]:=by
  rw [List.take_add_one,List.getElem?_eq_getElem h,sizeL_append]
  simp [sizeL]
mutual
theorem size_tot:∀ x:T,size x≤tot x
  | .mk k p f v l=>by have:=sizeL_tot l;rw [size,tot];split<;>omega
theorem sizeL_tot:∀ l:List T,sizeL l≤totL l
  | []=>by simp [sizeL]
  | x::l=>by have:=size_tot x;have:=sizeL_tot l;rw [sizeL,totL];omega
end
theorem sizeL_take_le {l:List T} {k:Nat}:sizeL (l.take k)≤totL l:=Nat.le_trans (sizeL_tot _) totL_le
theorem deepL_append (a b:List T):deepL (a++b)=max (deepL a) (deepL b):=by
  induction a with
  | nil=>simp [deepL]
  | cons p a ih=>simp only [List.cons_append,deepL,ih];omega
theorem deepL_take {l:List T} {k:Nat} (h:k<l.length):deepL (l.take (k+1))=max (deepL (l.take k)) (deep l[k]):=by
  rw [List.take_add_one,List.getElem?_eq_getElem h,deepL_append]
  simp [deepL]
mutual
theorem deep_tot:∀ x:T,deep x≤tot x
  | .mk k p f v l=>by have:=deepL_tot l;rw [deep,tot];omega
theorem deepL_tot:∀ l:List T,deepL l≤totL l
  | []=>by simp [deepL]
  | x::l=>by have:=deep_tot x;have:=deepL_tot l;rw [deepL,totL];omega
end
theorem deepL_take_le {l:List T} {k:Nat}:deepL (l.take k)≤totL l:=Nat.le_trans (deepL_tot _) totL_le
theorem wideS_append (a b:List T):∀ n,wideS n (a++b)=wideS (wideS n a) b:=by
  induction a with
  | nil=>intro n;rfl
  | cons x a ih=>intro n;rw [List.cons_append,wideS,wideS,ih]
theorem wideU_append (a b:List T):∀ n,wideU n (a++b)=wideU (wideU n a) b:=by
  induction a with
  | nil=>intro n;rfl
  | cons x a ih=>intro n;rw [List.cons_append,wideU,wideU,ih]
theorem wideI_append (a b:List T):∀ n,wideI n (a++b)=wideI (wideI n a) b:=by
  induction a with
  | nil=>intro n;rfl
  | cons x a ih=>intro n;rw [List.cons_append,wideI,wideI,ih]
theorem wideS_take (n:Nat) {l:List T} {k:Nat} (h:k<l.length):wideS n (l.take (k+1))=min (wideS n (l.take k)*wide l[k]) 1000:=by
  rw [List.take_add_one,List.getElem?_eq_getElem h,wideS_append]
  rfl
theorem wideU_take (n:Nat) {l:List T} {k:Nat} (h:k<l.length):wideU n (l.take (k+1))=min (wideU n (l.take k)+wide l[k]) 1000:=by
  rw [List.take_add_one,List.getElem?_eq_getElem h,wideU_append]
  rfl
theorem wideI_take (n:Nat) {l:List T} {k:Nat} (h:k<l.length):wideI n (l.take (k+1))=max (wideI n (l.take k)) (wide l[k]):=by
  rw [List.take_add_one,List.getElem?_eq_getElem h,wideI_append]
  rfl
mutual
theorem wide_le:∀ x:T,wide x≤1000
  | .mk k p f v l=>by
    rw [wide]
    split
    · exact wideS_le l 1 (by decide)
    split
    · exact wideU_le l 0 (by decide)
    split
    · exact wideI_le l 0 (by decide)
    · decide
theorem wideS_le:∀ (l:List T) (n:Nat),n≤1000→wideS n l≤1000
  | [],n,h=>by rw [wideS];exact h
  | x::l,n,h=>by rw [wideS];exact wideS_le l _ (Nat.min_le_right _ _)
theorem wideU_le:∀ (l:List T) (n:Nat),n≤1000→wideU n l≤1000
  | [],n,h=>by rw [wideU];exact h
  | x::l,n,h=>by rw [wideU];exact wideU_le l _ (Nat.min_le_right _ _)
theorem wideI_le:∀ (l:List T) (n:Nat),n≤1000→wideI n l≤1000
  | [],n,h=>by rw [wideI];exact h
  | x::l,n,h=>by have:=wide_le x;rw [wideI];exact wideI_le l _ (by omega)
end
theorem sameL_iff:∀ (a b:List T),sameL a b=true↔a.length=b.length∧∀ (k:Nat) (x y:T),a[k]?=some x→b[k]?=some y→same x y=true
  | [],[]=>by simp [sameL]
  | [],_::_=>by simp [sameL]
  | _::_,[]=>by simp [sameL]
  | x::a,y::b=>by
    simp only [sameL,Bool.and_eq_true,sameL_iff a b]
    constructor
    · rintro ⟨h1,h2,h3⟩
      refine ⟨by simp [h2],fun k p q hp hq=>?_⟩
      cases k with
      | zero=>simp at hp hq;subst hp hq;exact h1
      | succ k=>exact h3 k p q (by simpa using hp) (by simpa using hq)
    · rintro ⟨h1,h2⟩
      exact ⟨h2 0 x y rfl rfl,by simpa using h1,fun k p q hp hq=>h2 (k+1) p q (by simpa using hp) (by simpa using hq)⟩
mutual
theorem same_eq:∀ a b:T,same a b=true↔a=b
  | .mk k p f v l,.mk k' p' f' v' l'=>by
    rw [same]
    simp only [Bool.and_eq_true,decide_eq_true_eq,sameL_eq l l',Pd.same_eq,T.mk.injEq]
    exact ⟨fun ⟨⟨⟨⟨h1,h2⟩,h3⟩,h4⟩,h5⟩=>⟨h1,h4,h2,h3,h5⟩,fun ⟨h1,h4,h2,h3,h5⟩=>⟨⟨⟨⟨h1,h2⟩,h3⟩,h4⟩,h5⟩⟩
theorem sameL_eq:∀ a b:List T,sameL a b=true↔a=b
  | [],[]=>by simp [sameL]
  | [],_::_=>by simp [sameL]
  | _::_,[]=>by simp [sameL]
  | p::l,q::l'=>by rw [sameL,Bool.and_eq_true,same_eq p q,sameL_eq l l',List.cons.injEq]
end
end Po
end Go.Proofs.YtaojbkphcnailaaDoor
namespace Go.Proofs.YtaojbkphcnailaaDoor
open Go.Sx
set_option linter.unusedVariables false
namespace Lx
def isSp (c:UInt8):Bool:=c == 32||c == 9||c == 10
def isL (c:UInt8):Bool:=decide (97≤c.toNat)&&decide (c.toNat≤122)
def isD (c:UInt8):Bool:=decide (48≤c.toNat)&&decide (c.toNat≤57)
def isS (c:UInt8):Bool:=c == 40||c == 41||c == 59||c == 124||c == 61
def notNl (c:UInt8):Bool:=!(c == 10)
theorem tw_all {p:UInt8→Bool}:∀ {l:List UInt8} {x:UInt8},x∈l.takeWhile p→p x=true
  | [],_,h=>by simp at h
  | c::l,x,h=>by
    by_cases hc:p c=true
    · rw [List.takeWhile_cons_of_pos hc] at h
      rcases List.mem_cons.1 h with e | h
      · rw [e];exact hc
      · exact tw_all h
    · rw [List.takeWhile_cons_of_neg hc] at h;cases h
theorem tw_ext {p:UInt8→Bool}:∀ {a r:List UInt8},(∀ x∈a,p x=true)→(∀ c t,r=c::t→p c=false)→(a++r).takeWhile p=a∧(a++r).dropWhile p=r
  | [],[],_,_=>⟨rfl,rfl⟩
  | [],c::r,_,h=>by
    have:=h c r rfl
    constructor
    · rw [List.nil_append,List.takeWhile_cons_of_neg (by rw [this];decide)]
    · rw [List.nil_append,List.dropWhile_cons_of_neg (by rw [this];decide)]
  | x::a,r,h,h2=>by
    have hx:=h x (by simp)
    have ih:=tw_ext (a:=a) (r:=r) (fun y hy=>h y (List.mem_cons_of_mem _ hy)) h2
    constructor
    · rw [List.cons_append,List.takeWhile_cons_of_pos hx,ih.1]
    · rw [List.cons_append,List.dropWhile_cons_of_pos hx,ih.2]
theorem dw_head {p:UInt8→Bool}:∀ {l:List UInt8} {c:UInt8} {t:List UInt8},l.dropWhile p=c::t→p c=false
  | [],_,_,h=>by simp at h
  | x::l,c,t,h=>by
    by_cases hx:p x=true
    · rw [List.dropWhile_cons_of_pos hx] at h;exact dw_head h
    · rw [List.dropWhile_cons_of_neg hx] at h
      injection h with h1 _
      rw [← h1];simpa using hx
theorem dw_len {p:UInt8→Bool} (l:List UInt8):(l.dropWhile p).length≤l.length:=by
  have:=congrArg List.length (List.takeWhile_append_dropWhile (p:=p) (l:=l))
  simp only [List.length_append] at this
  omega
def skip (t:List UInt8):List UInt8 :=
  match h:t.dropWhile isSp with
  | []=>[]
  | c::r=>if c=35 then skip (r.dropWhile notNl) else c::r
termination_by t.length
decreasing_by
  have h1:=dw_len (p:=isSp) t
  have h2:=dw_len (p:=notNl) r
  rw [h] at h1
  simp only [List.length_cons] at h1
  omega
theorem skip_nil {t:List UInt8} (h:t.dropWhile isSp=[]):skip t=[]:=by
  rw [skip]
  split
  · rfl
  · rename_i e;rw [h] at e;cases e
theorem skip_cons {t r:List UInt8} {c:UInt8} (h:t.dropWhile isSp=c::r):skip t=if c=35 then skip (r.dropWhile notNl) else c::r:=by
  rw [skip]
  split
  · rename_i e;rw [h] at e;cases e
  · rename_i c' r' e
    rw [h] at e
    injection e with e1 e2
    rw [e1,e2]
theorem skip_len:∀ (n:Nat) (t:List UInt8),t.length≤n→(skip t).length≤t.length
  | 0,t,h=>by
    have:t=[]:=List.eq_nil_of_length_eq_zero (by omega)
    subst this
    rw [skip_nil rfl];exact Nat.le_refl _
  | n+1,t,h=>by
    have h1:=dw_len (p:=isSp) t
    cases hd:t.dropWhile isSp with
    | nil=>rw [skip_nil hd];simp
    | cons c r =>
      rw [hd] at h1
      simp only [List.length_cons] at h1
      rw [skip_cons hd]
      split
      · have h2:=dw_len (p:=notNl) r
        have:=skip_len n (r.dropWhile notNl) (by omega)
        omega
      · simp only [List.length_cons];omega
theorem skip_split:∀ (n:Nat) (t:List UInt8),t.length≤n→skip t≠[]→∃ b,t=b++skip t∧∀ y,(∀ c r,y=c::r→isSp c=false∨True)→skip (b++y)=skip y
  | 0,t,h,hne=>by
    have:t=[]:=List.eq_nil_of_length_eq_zero (by omega)
    subst this
    rw [skip_nil rfl] at hne
    exact (hne rfl).elim
  | n+1,t,h,hne=>by
    have ht:=List.takeWhile_append_dropWhile (p:=isSp) (l:=t)
    have hall:∀ x∈t.takeWhile isSp,isSp x=true:=fun x hx=>tw_all hx
    have h1:=dw_len (p:=isSp) t
    have key:∀ (a y:List UInt8),(∀ x∈a,isSp x=true)→skip (a++y)=skip y:=by
      intro a y ha
      have e:(a++y).dropWhile isSp=y.dropWhile isSp:=by
        induction a with
        | nil=>rfl
        | cons x a ih=>rw [List.cons_append,List.dropWhile_cons_of_pos (ha x (by simp))];exact ih fun z hz=>ha z (List.mem_cons_of_mem _ hz)
      cases hy:y.dropWhile isSp with
      | nil=>rw [skip_nil (e.trans hy),skip_nil hy]
      | cons c r=>rw [skip_cons (e.trans hy),skip_cons hy]
    cases hd:t.dropWhile isSp with
    | nil=>rw [skip_nil hd] at hne;exact (hne rfl).elim
    | cons c r =>
      rw [hd] at h1
      simp only [List.length_cons] at h1
      have hs:=skip_cons hd
      by_cases hc:c=35
      · rw [if_pos hc] at hs
        have h2:=dw_len (p:=notNl) r
        have hr:=List.takeWhile_append_dropWhile (p:=notNl) (l:=r)
        rw [hs] at hne
        cases hd2:r.dropWhile notNl with
        | nil =>
          rw [hd2,skip_nil rfl] at hne
          exact (hne rfl).elim
        | cons d r2 =>
          have hnl:d=10:=by
            have:=dw_head hd2
            unfold notNl at this
            simpa using this
          have h3:(r.dropWhile notNl).length≤n:=by omega
          obtain ⟨b,hb,hy⟩:=skip_split n (r.dropWhile notNl) h3 hne
          refine ⟨t.takeWhile isSp++(c::(r.takeWhile notNl++b)),?_,fun y hyy=>?_⟩
          · rw [hs,List.append_assoc,List.cons_append,List.append_assoc,← hb,hr,← hd,ht]
          · rw [List.append_assoc,key _ _ hall]
            have hbne:b≠[]∨skip (r.dropWhile notNl)=r.dropWhile notNl:=by
              by_cases e:b=[]
              · right;rw [e] at hb;exact hb.symm
              · exact .inl e
            have hsp:isSp d=true:=by rw [hnl];decide
            have hbn:b≠[]:=by
              rcases hbne with h | h
              · exact h
              · intro e
                have e2:skip (d::r2)=d::r2:=by rw [← hd2];exact h
                have e3:=key [d] r2 (fun x hx=>by rw [List.mem_singleton.1 hx];exact hsp)
                have e4:=skip_len r2.length r2 (Nat.le_refl _)
                have e5:(skip (d::r2)).length≤r2.length:=by
                  have:skip (d::r2)=skip r2:=e3
                  rw [this];exact e4
                rw [e2] at e5
                simp only [List.length_cons] at e5
                omega
            obtain ⟨b0,b1,rfl⟩:∃ b0 b1,b=b0::b1:=by
              cases b with
              | nil=>exact (hbn rfl).elim
              | cons b0 b1=>exact ⟨_,_,rfl⟩
            have hb0:b0=d:=by
              rw [hd2] at hb
              injection hb with e _
              exact e.symm
            have ew:(r.takeWhile notNl++(b0::b1)++y).dropWhile notNl=b0::b1++y:=by
              rw [List.append_assoc]
              refine (tw_ext (fun x hx=>tw_all hx) fun c' t' e=>?_).2
              rw [List.cons_append] at e
              injection e with e _
              rw [← e,hb0,hnl];decide
            have ed:(c::(r.takeWhile notNl++(b0::b1))++y).dropWhile isSp=c::(r.takeWhile notNl++(b0::b1)++y):=by
              rw [List.cons_append,List.dropWhile_cons_of_neg]
              rw [hc];decide
            rw [skip_cons ed,if_pos hc,ew]
            exact hy y hyy
      · rw [if_neg hc] at hs
        refine ⟨t.takeWhile isSp,?_,fun y _=>key _ _ hall⟩
        rw [hs,← hd,ht]
structure B where
  k:Int
  n:Int
  s:List UInt8
def num (d:List UInt8):Nat:=d.foldl (fun n c=>10*n+(c.toNat - 48)) 0
def nextB:List UInt8→Option (B × Nat)
  | []=>none
  | c::r =>
    if isL c=true then some (⟨1,0,(c::r).takeWhile isL⟩,((c::r).takeWhile isL).length)
    else if isD c=true then
      (if 3<((c::r).takeWhile isD).length∨(1<((c::r).takeWhile isD).length∧c=48) then none
       else some (⟨2,num ((c::r).takeWhile isD),[]⟩,((c::r).takeWhile isD).length))
    else if c=58∧r.head?=some 61 then some (⟨3,0,[58,61]⟩,2)
    else if isS c=true then some (⟨3,0,[c]⟩,1)
    else none
theorem nextB_eq (c:UInt8) (r:List UInt8):nextB (c::r) =
    if isL c=true then some (⟨1,0,(c::r).takeWhile isL⟩,((c::r).takeWhile isL).length)
    else if isD c=true then
      (if 3<((c::r).takeWhile isD).length∨(1<((c::r).takeWhile isD).length∧c=48) then none
       else some (⟨2,num ((c::r).takeWhile isD),[]⟩,((c::r).takeWhile isD).length))
    else if c=58∧r.head?=some 61 then some (⟨3,0,[58,61]⟩,2)
    else if isS c=true then some (⟨3,0,[c]⟩,1)
    else none:=rfl
theorem tw_take (p:UInt8→Bool) (l:List UInt8):l.take (l.takeWhile p).length=l.takeWhile p∧l.drop (l.takeWhile p).length=l.dropWhile p:=by
  have ht:=List.takeWhile_append_dropWhile (p:=p) (l:=l)
  have h1:=List.take_left (l₁:=l.takeWhile p) (l₂:=l.dropWhile p)
  have h2:=List.drop_left (l₁:=l.takeWhile p) (l₂:=l.dropWhile p)
  rw [ht] at h1 h2
  exact ⟨h1,h2⟩
theorem nextB_pos {t:List UInt8} {b:B} {n:Nat} (h:nextB t=some (b,n)):1≤n∧n≤t.length:=by
  cases t with
  | nil=>cases h
  | cons c r =>
    rw [nextB_eq] at h
    have hl:∀ p:UInt8→Bool,((c::r).takeWhile p).length≤(c::r).length:=fun p=>by
      have:=congrArg List.length (List.takeWhile_append_dropWhile (p:=p) (l:=c::r))
      simp only [List.length_append] at this
      omega
    split at h
    · rename_i hc
      injection h with h;injection h with _ h
      have:=hl isL
      rw [← h]
      refine ⟨?_,this⟩
      rw [List.takeWhile_cons_of_pos hc];simp
    split at h
    · rename_i hc
      split at h
      · cases h
      injection h with h;injection h with _ h
      have:=hl isD
      rw [← h]
      refine ⟨?_,this⟩
      rw [List.takeWhile_cons_of_pos hc];simp
    split at h
    · rename_i hc
      injection h with h;injection h with _ h
      rw [← h]
      cases r with
      | nil=>simp at hc
      | cons d r=>simp
    split at h
    · injection h with h;injection h with _ h
      rw [← h];simp
    · cases h
theorem nextB_ext {t:List UInt8} {b:B} {n:Nat} (h:nextB t=some (b,n)) {y:List UInt8} (hy:∀ c r,y=c::r→(isL c=false∧isD c=false)∨(t.drop n).head?=some c):nextB (t.take n++y)=some (b,n):=by
  cases t with
  | nil=>cases h
  | cons c r =>
    rw [nextB_eq] at h
    split at h
    · rename_i hc
      injection h with h;injection h with h1 h2
      have e1:(c::r).take n=(c::r).takeWhile isL:=by rw [← h2];exact (tw_take _ _).1
      have e2:(c::r).drop n=(c::r).dropWhile isL:=by rw [← h2];exact (tw_take _ _).2
      have hx:=tw_ext (p:=isL) (a:=(c::r).takeWhile isL) (r:=y) (fun x hx=>tw_all hx) fun d u e=>by
        rcases hy d u e with h | h
        · exact h.1
        · rw [e2] at h
          cases hd:(c::r).dropWhile isL with
          | nil=>rw [hd] at h;cases h
          | cons d' u' =>
            rw [hd] at h
            injection h with h
            rw [← h];exact dw_head hd
      rw [e1]
      obtain ⟨a,ha⟩:∃ a,(c::r).takeWhile isL=c::a:=⟨_,List.takeWhile_cons_of_pos hc⟩
      rw [← h1,← h2]
      rw [ha] at hx ⊢
      rw [List.cons_append] at hx ⊢
      rw [nextB_eq]
      rw [if_pos hc,hx.1]
    split at h
    · rename_i hcl hc
      split at h
      · cases h
      rename_i hno
      injection h with h;injection h with h1 h2
      have e1:(c::r).take n=(c::r).takeWhile isD:=by rw [← h2];exact (tw_take _ _).1
      have e2:(c::r).drop n=(c::r).dropWhile isD:=by rw [← h2];exact (tw_take _ _).2
      have hx:=tw_ext (p:=isD) (a:=(c::r).takeWhile isD) (r:=y) (fun x hx=>tw_all hx) fun d u e=>by
        rcases hy d u e with h | h
        · exact h.2
        · rw [e2] at h
          cases hd:(c::r).dropWhile isD with
          | nil=>rw [hd] at h;cases h
          | cons d' u' =>
            rw [hd] at h
            injection h with h
            rw [← h];exact dw_head hd
      rw [e1]
      obtain ⟨a,ha⟩:∃ a,(c::r).takeWhile isD=c::a:=⟨_,List.takeWhile_cons_of_pos hc⟩
      rw [← h1,← h2]
      rw [ha] at hx hno ⊢
      rw [List.cons_append] at hx ⊢
      rw [nextB_eq]
      rw [if_neg hcl,if_pos hc,hx.1,if_neg hno]
    split at h
    · rename_i hcl hcd hc
      injection h with h;injection h with h1 h2
      rw [← h1,← h2]
      cases r with
      | nil=>simp at hc
      | cons d r =>
        have hd:d=61:=by simpa using hc.2
        rw [hd,hc.1]
        rw [List.take_succ_cons,List.take_succ_cons,List.take_zero,List.cons_append,nextB_eq]
        rw [if_neg (by decide),if_neg (by decide),if_pos ⟨rfl,rfl⟩]
    split at h
    · rename_i hcl hcd hce hc
      injection h with h;injection h with h1 h2
      rw [← h1,← h2]
      rw [List.take_succ_cons,List.take_zero,List.cons_append,List.nil_append]
      rw [nextB_eq]
      rw [if_neg hcl,if_neg hcd,if_neg (fun e=>by rw [e.1] at hc;revert hc;decide),if_pos hc]
    · cases h
def toks (t:List UInt8):Option (List (B × List UInt8)) :=
  match h:skip t with
  | []=>some []
  | c::r =>
    match h2:nextB (c::r) with
    | none=>none
    | some (b,n)=>(toks ((c::r).drop n)).map ((b,c::r)::·)
termination_by t.length
decreasing_by
  have h1:=skip_len t.length t (Nat.le_refl _)
  rw [h] at h1
  have h3:=nextB_pos h2
  rw [List.length_drop]
  simp only [List.length_cons] at *
  omega
theorem toks_nil {t:List UInt8} (h:skip t=[]):toks t=some []:=by
  rw [toks]
  split
  · rfl
  · rename_i e;rw [h] at e;cases e
theorem toks_none {t:List UInt8} (h:skip t≠[]) (h2:nextB (skip t)=none):toks t=none:=by
  rw [toks]
  split
  · rename_i e;exact (h e).elim
  · rename_i c r e
    split
    · rfl
    · rename_i b n e2
      rw [e] at h2
      rw [h2] at e2;cases e2
theorem toks_cons {t:List UInt8} {b:B} {n:Nat} (h:skip t≠[]) (h2:nextB (skip t)=some (b,n)):toks t=(toks ((skip t).drop n)).map ((b,skip t)::·):=by
  rw [toks]
  split
  · rename_i e;exact (h e).elim
  · rename_i c r e
    split
    · rename_i e2
      rw [e] at h2
      rw [h2] at e2;cases e2
    · rename_i b' n' e2
      rw [e] at h2 ⊢
      rw [h2] at e2
      injection e2 with e2
      injection e2 with e3 e4
      subst e3 e4
      rfl
theorem skip_head:∀ (n:Nat) (t:List UInt8),t.length≤n→∀ {c r},skip t=c::r→isSp c=false∧c≠35
  | 0,t,h,c,r,e=>by
    have:t=[]:=List.eq_nil_of_length_eq_zero (by omega)
    subst this
    rw [skip_nil rfl] at e;cases e
  | n+1,t,h,c,r,e=>by
    have h1:=dw_len (p:=isSp) t
    cases hd:t.dropWhile isSp with
    | nil=>rw [skip_nil hd] at e;cases e
    | cons d q =>
      rw [hd] at h1
      simp only [List.length_cons] at h1
      rw [skip_cons hd] at e
      split at e
      · have h2:=dw_len (p:=notNl) q
        exact skip_head n _ (by omega) e
      · rename_i hc
        injection e with e1 e2
        subst e1
        exact ⟨dw_head hd,hc⟩
theorem skip_id {c:UInt8} {r:List UInt8} (h:isSp c=false) (h2:c≠35):skip (c::r)=c::r:=by
  have e:(c::r).dropWhile isSp=c::r:=List.dropWhile_cons_of_neg (by rw [h];decide)
  rw [skip_cons e,if_neg h2]
theorem toks_skip {t y:List UInt8} (h:skip t=skip y):toks t=toks y:=by
  by_cases hn:skip y=[]
  · rw [toks_nil hn,toks_nil (h.trans hn)]
  · cases h2:nextB (skip y) with
    | none=>rw [toks_none hn h2,toks_none (by rw [h];exact hn) (by rw [h];exact h2)]
    | some q =>
      obtain ⟨b,n⟩:=q
      rw [toks_cons hn h2,toks_cons (by rw [h];exact hn) (by rw [h];exact h2),h]
end Lx
end Go.Proofs.YtaojbkphcnailaaDoor
