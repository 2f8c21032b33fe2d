import Derived.Test.YtaojbkphcnailaaDoorJ10
import Derived.Test.YtaojbkphcnailaaDoorJ22
namespace Go.Proofs.YtaojbkphcnailaaDoor
open Go.Sx
set_option maxRecDepth 20000
set_option maxHeartbeats 4000000
set_option linter.unusedVariables false
namespace Pd
theorem fits_mk {k f v:Int} {l:List T} (h:fits (.mk k f v l)=true):(k=3∧(0≤f∧f≤5)∧(0≤v∧v≤top f)∧l.length=0∨(k=1∨k=2)∧f=0∧v=0∧l.length=0∨k=4∧f=0∧v=0∧l.length=1∨(k=5∨k=6)∧f=0∧v=0∧2≤l.length∧l.length≤8)∧∀ x∈l,fits x=true:=by
  rw [fits,Bool.and_eq_true,fitsL_iff] at h
  have h1:=h.1
  unfold shape at h1
  rw [decide_eq_true_eq] at h1
  exact ⟨h1,h.2⟩
theorem size_mk (k f v:Int) (l:List T):size (.mk k f v l)=1+sizeL l:=by rw [size]
end Pd
end Go.Proofs.YtaojbkphcnailaaDoor
namespace Go.Proofs.YtaojbkphcnailaaDoor
open Go.Sx
set_option maxRecDepth 20000
set_option linter.unusedVariables false
set_option linter.unusedSimpArgs false
namespace Ps
open Lx (B)
def isB (b:B) (s:List UInt8):Bool:=(decide (b.k=1)||decide (b.k=3))&&decide (b.s=s)
theorem is_eq (l:List B) (i:Nat) (s:List UInt8):is l i s=isB (tk l i) s:=rfl
theorem tk_of {l:List B} {i:Nat} {b:B} {M:List B} (h:l.drop i=b::M):tk l i=b∧l.drop (i+1)=M∧i<l.length:=by
  have h1:l[i]?=some b:=by
    have:=congrArg (fun l=>l[0]?) h
    simpa using this
  have hi:=(List.getElem?_eq_some_iff.1 h1).1
  refine ⟨by unfold tk;rw [h1];rfl,?_,hi⟩
  have:=congrArg List.tail h
  simpa using this
theorem drop_add {l:List B} {i:Nat} {L M:List B} (h:l.drop i=L++M):l.drop (i+L.length)=M:=by
  rw [← List.drop_drop,h,List.drop_left]
def nis (R:List B) (s:List UInt8):Prop:=∃ b M,R=b::M∧isB b s=false
theorem nis.is {l:List B} {i:Nat} {R:List B} {s:List UInt8} (h:nis R s) (hd:l.drop i=R):is l i s=false∧i<l.length:=by
  obtain ⟨b,M,rfl,hb⟩:=h
  obtain ⟨h1,_,h3⟩:=tk_of hd
  exact ⟨by rw [is_eq,h1,hb],h3⟩
theorem more_of {α:Type} {l:List B} {s:List UInt8} {sep:B} (hsep:isB sep s=true) {one:Nat→R α} {L:α→List B} {P:List B→Prop} (hP:∀ M,P (sep::M)) {R:List B} (hR:P R) (hn:nis R s):∀ (r acc:List α) (j n:Nat),r.length<n→(∀ x∈r,∀ i R',P R'→l.drop i=L x++R'→one i = .ok x (i+(L x).length)) →
    l.drop j=((r.map L).map ([sep]++·)).flatten++R→more l s one n acc j = .ok (acc++r) (j+((r.map L).map ([sep]++·)).flatten.length)
  | [],acc,j,n,hlt,_,hd=>by
    obtain ⟨n,rfl⟩:∃ m,n=m+1:=⟨n - 1,by simp at hlt;omega⟩
    have:=(hn.is (s:=s) (i:=j) (l:=l) (by simpa using hd)).1
    rw [more,if_neg (by rw [this];decide)]
    simp
  | x::r,acc,j,n,hlt,h,hd=>by
    obtain ⟨n,rfl⟩:∃ m,n=m+1:=⟨n - 1,by simp at hlt;omega⟩
    rw [List.map_cons,List.map_cons,List.flatten_cons,List.append_assoc,List.append_assoc,List.singleton_append] at hd
    obtain ⟨h1,h2,h3⟩:=tk_of hd
    have hR':P (((r.map L).map ([sep]++·)).flatten++R):=by
      cases r with
      | nil=>simpa using hR
      | cons y r=>exact hP _
    have ho:=h x (by simp) (j+1) _ hR' h2
    have hm:=more_of hsep hP hR hn r (acc++[x]) (j+1+(L x).length) n (by simp at hlt;omega) (fun y hy=>h y (by simp [hy])) (drop_add h2)
    rw [more,if_pos (by rw [is_eq,h1,hsep]),ho]
    dsimp only
    rw [hm]
    simp only [List.append_assoc,List.map_cons,List.flatten_cons,List.length_append,List.length_cons,List.length_nil,List.singleton_append]
    congr 1
    omega
theorem chain_of {α:Type} {l:List B} {s:List UInt8} {sep:B} (hsep:isB sep s=true) {one:Nat→R α} {L:α→List B} {P:List B→Prop} (hP:∀ M,P (sep::M)) {R:List B} (hR:P R) (hn:nis R s) {xs:List α} (hx:xs≠[]) (h:∀ x∈xs,∀ i R',P R'→l.drop i=L x++R'→one i = .ok x (i+(L x).length)) {i:Nat}
    (hd:l.drop i=jn [sep] (xs.map L)++R):chain l s one i = .ok xs (i+(jn [sep] (xs.map L)).length):=by
  obtain ⟨x,r,rfl⟩:=List.exists_cons_of_ne_nil hx
  rw [List.map_cons,jn,List.append_assoc] at hd
  have hR':P (((r.map L).map ([sep]++·)).flatten++R):=by
    cases r with
    | nil=>simpa using hR
    | cons y r=>exact hP _
  have ho:=h x (by simp) i _ hR' hd
  have h2:=drop_add hd
  have hl:r.length+1≤l.length - (i+(L x).length):=by
    have h5:=congrArg List.length h2
    rw [List.length_drop,List.length_append] at h5
    have h6:r.length≤((r.map L).map ([sep]++·)).flatten.length:=by
      clear h5 h2 hR' ho hd h hx
      induction r with
      | nil=>exact Nat.zero_le _
      | cons y r ih=>simp only [List.map_cons,List.flatten_cons,List.length_append,List.length_cons,List.length_nil] at *;omega
    obtain ⟨b,M,rfl,_⟩:=hn
    simp only [List.length_cons] at h5
    omega
  have hm:=more_of hsep hP hR hn r [x] (i+(L x).length) (l.length+1 - (i+(L x).length)) (by omega) (fun y hy=>h y (by simp [hy])) h2
  unfold chain
  rw [ho]
  dsimp only
  rw [hm,List.map_cons,jn,List.length_append]
  simp only [List.singleton_append]
  congr 1
  omega
theorem chain_one {α:Type} {l:List B} {s:List UInt8} {one:Nat→R α} {R:List B} (hn:nis R s) {x:α} {i:Nat} {L:List B} (h:one i = .ok x (i+L.length)) (hd:l.drop i=L++R) (f:List α→α):wrap f (chain l s one i) = .ok x (i+L.length):=by
  obtain ⟨h1,h2⟩:=hn.is (drop_add hd)
  unfold chain
  rw [h]
  dsimp only
  rw [show l.length+1 - (i+L.length)=(l.length - (i+L.length))+1 by omega,more,if_neg (by rw [h1];decide)]
  rfl
theorem wrap_many {α:Type} {f:List α→α} {xs:List α} {j:Nat} (h:2≤xs.length):wrap f (.ok xs j) = .ok (f xs) j:=by
  match xs,h with
  | x::y::r,_=>rfl
def gP (R:List B):Prop:=nis R wAnd
def cP (R:List B):Prop:=nis R wAnd∧nis R wOr
theorem gP_ne {R:List B} (h:nis R wAnd):R≠[]:=by obtain ⟨b,M,rfl,_⟩:=h;exact List.cons_ne_nil _ _
theorem field_of {l:List B} {i many:Nat} {f:Int} (h0:0≤f) (h1:f<many) (hm:many≤6) (ht:tk l i=W (Pd.word f)):field l i many=some f.toNat:=by
  obtain ⟨n,rfl⟩:=Int.eq_ofNat_of_zero_le h0
  have hall:∀ many,many<7→∀ n:Nat,n<many→(words.take many).findIdx? (fun w=>decide (w=Pd.word (n:Int)))=some n:=by decide +kernel
  unfold field
  rw [ht,if_pos (show (W (Pd.word (n:Int))).k=1 from rfl)]
  exact hall many (by omega) n (by omega)
theorem isB_word {f:Int} {s:List UInt8} (h:∀ w∈words,w≠s):isB (W (Pd.word f)) s=false:=by
  have hw:Pd.word f∈words:=by
    unfold Pd.word words
    repeat' split
    all_goals simp
  unfold isB
  rw [show (W (Pd.word f)).s=Pd.word f from rfl,decide_eq_false (h _ hw),Bool.and_false]
theorem assign_of {l:List B} {i many:Nat} {f v:Int} {sign:List UInt8} {R:List B} (h0:0≤f) (h1:f<many) (hm:many≤6) (hs:isB (S sign) sign=true) (hd:l.drop i=[W (Pd.word f),S sign,Nm v]++R):assign l many sign i = .ok (f,v) (i+3):=by
  obtain ⟨h2,h3,_⟩:=tk_of hd
  obtain ⟨h4,h5,_⟩:=tk_of h3
  obtain ⟨h6,_,_⟩:=tk_of h5
  unfold assign
  rw [field_of h0 h1 hm h2]
  dsimp only
  rw [is_eq,h4,if_pos hs,show i+2=i+1+1 from rfl,h6,if_pos (show (Nm v).k=2 from rfl)]
  rw [show ((f.toNat:Nat):Int)=f by omega]
  rfl
theorem part_go {l:List B} {n i:Nat} {b:B} (h:tk l i=b) (h1:isB b wTrue=false) (h2:isB b wFalse=false) (h3:isB b wNot=false) (h4:isB b wOpen=false):part l (n+1) i=match assign l 6 wEq i with
      | .ok (f,v) j=>.ok (.mk 3 f v []) j
      | .bad j=>.bad j:=by
  rw [part]
  simp only [is_eq,h,h1,h2,h3,h4,Bool.false_eq_true,if_false]
  rcases assign l 6 wEq i with ⟨⟨f,v⟩,j⟩ | j<;>rfl
theorem part_open {l:List B} {n i:Nat} (h:tk l i=S wOpen):part l (n+1) i=shut l (cond l (part l n) (i+1)):=by
  rw [part]
  simp only [is_eq,h]
  rfl
theorem cond_own {l:List B} {part:Nat→R Pd.T} {p:Pd.T} (hf:Pd.fits p=true) (hp:¬(p.k=5∨p.k=6)→∀ i R,R≠[]→l.drop i=ws p++R→part i = .ok p (i+(ws p).length)) (hl:∀ x∈p.l,∀ i R,R≠[]→l.drop i=innW x.k (ws x)++R→part i = .ok x (i+(innW x.k (ws x)).length)) {i:Nat} {R:List B} (hR:cP R) (hd:l.drop i=ws p++R):cond l part i = .ok p (i+(ws p).length):=by
  obtain ⟨k,f,v,xs⟩:=p
  obtain ⟨hsh,_⟩:=Pd.fits_mk hf
  have hne:=gP_ne hR.1
  by_cases hk:k=5∨k=6
  · have hf0:f=0∧v=0∧2≤xs.length:=by omega
    obtain ⟨rfl,rfl,h2⟩:=hf0
    have hxs:xs≠[]:=by rintro rfl;simp at h2
    have hw:ws (.mk k 0 0 xs)=jn (sepW k) (xs.map fun p=>innW p.k (ws p)):=by
      rw [ws,if_neg (by omega),if_neg (by omega),if_neg (by omega),if_neg (by omega),wsL_map]
    rw [hw] at hd ⊢
    rcases hk with rfl | rfl
    · rw [show sepW 5=[W wAnd] from rfl] at hd ⊢
      have hc:=chain_of (l:=l) (s:=wAnd) (sep:=W wAnd) (by decide) (one:=part) (P:=fun R=>R≠[]) (fun M=>List.cons_ne_nil _ _) hne hR.1 hxs (fun x hx i R' h1 h2=>hl x hx i R' h1 h2) hd
      have hg:group l part i = .ok (.mk 5 0 0 xs) (i+(jn [W wAnd] (xs.map fun p=>innW p.k (ws p))).length):=by
        unfold group
        rw [hc,wrap_many h2]
      exact chain_one hR.2 hg hd _
    · rw [show sepW 6=[W wOr] from rfl] at hd ⊢
      have hgo:∀ x∈xs,∀ i R',gP R'→l.drop i=innW x.k (ws x)++R'→group l part i = .ok x (i+(innW x.k (ws x)).length):=fun x hx i R' h1 h2=>chain_one h1 (hl x hx i R' (gP_ne h1) h2) h2 _
      have hc:=chain_of (l:=l) (s:=wOr) (sep:=W wOr) (by decide) (one:=group l part) (P:=gP) (fun M=>⟨_,_,rfl,by decide⟩) hR.1 hR.2 hxs hgo hd
      unfold cond
      rw [hc,wrap_many h2]
  · have h1:=hp hk i R hne hd
    exact chain_one hR.2 (chain_one hR.1 h1 hd _) hd _
theorem part_of {l:List B}:∀ (n:Nat) (p:Pd.T),Pd.size p≤n→Pd.fits p=true→∀ i R,R≠[]→l.drop i=innW p.k (ws p)++R→part l n i = .ok p (i+(innW p.k (ws p)).length)
  | 0,p,hn,_,_,_,_,_=>absurd (Pd.size_pos p) (by omega)
  | n+1,⟨k,f,v,xs⟩,hn,hf,i,R,hne,hd=>by
    obtain ⟨hsh,hfx⟩:=Pd.fits_mk hf
    have hsz:∀ x∈xs,Pd.size x≤n:=fun x hx=>by have:=Pd.size_lt (k:=k) (f:=f) (v:=v) hx;omega
    have ih:∀ x∈xs,∀ i R,R≠[]→l.drop i=innW x.k (ws x)++R→part l n i = .ok x (i+(innW x.k (ws x)).length):=fun x hx i R h1 h2=>part_of n x (hsz x hx) (hfx x hx) i R h1 h2
    by_cases hk:k=5∨k=6
    · have he:innW (Pd.T.mk k f v xs).k (ws (.mk k f v xs))=S wOpen::(ws (.mk k f v xs)++[S wShut]):=if_pos hk
      rw [he] at hd ⊢
      rw [List.cons_append,List.append_assoc] at hd
      obtain ⟨h1,h2,_⟩:=tk_of hd
      have hc:=cond_own (l:=l) (part:=part l n) hf (fun h=>absurd hk h) ih (R:=[S wShut]++R) ⟨⟨_,_,rfl,by decide⟩,⟨_,_,rfl,by decide⟩⟩ h2
      obtain ⟨h3,_,_⟩:=tk_of (drop_add h2)
      rw [part_open h1,hc]
      unfold shut
      dsimp only
      rw [is_eq,h3,if_pos (by decide),List.length_cons,List.length_append,List.length_singleton]
      congr 1
      omega
    · have he:innW (Pd.T.mk k f v xs).k (ws (.mk k f v xs))=ws (.mk k f v xs):=if_neg hk
      rw [he] at hd ⊢
      rw [ws] at hd ⊢
      rcases hsh with ⟨rfl,hf3,hv,hx⟩ | ⟨rfl | rfl,rfl,rfl,hx⟩ | ⟨rfl,rfl,rfl,hx⟩ | ⟨hk5,_⟩
      · rw [if_neg (by decide),if_neg (by decide),if_pos rfl] at hd ⊢
        obtain ⟨h1,_,_⟩:=tk_of hd
        rw [part_go h1 (isB_word (by decide)) (isB_word (by decide)) (isB_word (by decide)) (isB_word (by decide)),assign_of hf3.1 (by omega) (by decide) (by decide) hd]
        obtain rfl:=List.length_eq_zero_iff.1 hx
        rfl
      · rw [if_pos rfl] at hd ⊢
        obtain ⟨h1,_,_⟩:=tk_of hd
        obtain rfl:=List.length_eq_zero_iff.1 hx
        rw [part,is_eq,h1,if_pos (by decide)]
        rfl
      · rw [if_neg (by decide),if_pos rfl] at hd ⊢
        obtain ⟨h1,_,_⟩:=tk_of hd
        obtain rfl:=List.length_eq_zero_iff.1 hx
        rw [part,is_eq,is_eq,h1,if_neg (by decide),if_pos (by decide)]
        rfl
      · rw [if_neg (by decide),if_neg (by decide),if_neg (by decide),if_pos rfl] at hd ⊢
        obtain ⟨x,rfl⟩:=List.length_eq_one_iff.1 hx
        have e2:jn [] (wsL [x])=innW x.k (ws x):=by
          rw [wsL_map,List.map_singleton]
          exact List.append_nil _
        rw [e2] at hd ⊢
        rw [List.cons_append] at hd
        obtain ⟨h1,h2,_⟩:=tk_of hd
        rw [part,is_eq,is_eq,is_eq,h1,if_neg (by decide),if_neg (by decide),if_pos (by decide),ih x (by simp) (i+1) R hne h2,List.length_cons]
        dsimp only
        congr 1
        omega
      · omega
theorem cond_of {l:List B} {n:Nat} {p:Pd.T} (hn:Pd.size p≤n) (hf:Pd.fits p=true) {i:Nat} {R:List B} (hR:cP R) (hd:l.drop i=ws p++R):cond l (part l n) i = .ok p (i+(ws p).length):=by
  refine cond_own hf (fun hk i R h1 h2=>?_) (fun x hx i R h1 h2=>?_) hR hd
  · have he:innW p.k (ws p)=ws p:=if_neg hk
    have:=part_of n p hn hf i R h1 (by rw [he];exact h2)
    rwa [he] at this
  · obtain ⟨k,f,v,xs⟩:=p
    have:=Pd.size_lt (k:=k) (f:=f) (v:=v) (show x∈xs from hx)
    exact part_of n x (by omega) ((Pd.fits_mk hf).2 x hx) i R h1 h2
end Ps
end Go.Proofs.YtaojbkphcnailaaDoor
