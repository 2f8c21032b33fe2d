import Derived.Test.YtaolcaggdddkpaaGreatJ1
namespace Go.Proofs.YtaolcaggdddkpaaGreat
open Go.Sx
set_option maxRecDepth 20000
set_option linter.unusedVariables false
namespace Pd
mutual
def vals (f:Int):T→List Int
 | .mk k a v l=>(if k=3∧a=f then [v] else [])++valsL f l
def valsL (f:Int):List T→List Int
 | []=>[]
 | p::l=>vals f p++valsL f l
end
theorem valsL_append (f:Int) (a b:List T):valsL f (a++b)=valsL f a++valsL f b:=by
 induction a with
 | nil=>rfl
 | cons p a ih=>rw [List.cons_append,valsL,valsL,ih,List.append_assoc]
theorem valsL_take (f:Int) {l:List T} {k:Nat} (h:k<l.length):valsL f (l.take (k+1))=valsL f (l.take k)++vals f l[k]:=by
 rw [List.take_add_one,List.getElem?_eq_getElem h,valsL_append]
 congr 1
 show vals f l[k]++[]=_
 simp
mutual
theorem vals_len (f:Int):∀ p:T,(vals f p).length≤size p
 | .mk k a v l=>by
  have:=valsL_len f l
  rw [vals,size,List.length_append]
  split
  ·simp;omega
  ·simp;omega
theorem valsL_len (f:Int):∀ l:List T,(valsL f l).length≤sizeL l
 | []=>by simp [valsL]
 | p::l=>by have:=vals_len f p;have:=valsL_len f l;rw [valsL,sizeL,List.length_append];omega
end
mutual
theorem vals_top (f:Int):∀ p:T,fits p=true→∀ v∈vals f p,0≤v∧v≤top f
 | .mk k a w l,h,v,hv=>by
  rw [fits,Bool.and_eq_true] at h
  rw [vals,List.mem_append] at hv
  rcases hv with hv | hv
  ·split at hv
   ·rename_i hk
    obtain ⟨rfl,rfl⟩:=hk
    have h1:=h.1
    unfold shape at h1
    rw [decide_eq_true_eq] at h1
    rw [List.mem_singleton.1 hv]
    omega
   ·simp at hv
  ·exact valsL_top f l h.2 v hv
theorem valsL_top (f:Int):∀ l:List T,fitsL l=true→∀ v∈valsL f l,0≤v∧v≤top f
 | [],_,v,hv=>by simp [valsL] at hv
 | p::l,h,v,hv=>by
  rw [fitsL,Bool.and_eq_true] at h
  rw [valsL,List.mem_append] at hv
  rcases hv with hv | hv
  ·exact vals_top f p h.1 v hv
  ·exact valsL_top f l h.2 v hv
end
def once:List Int→List Int
 | []=>[]
 | [x]=>[x]
 | x::y::l=>if x=y then once (y::l) else x::once (y::l)
theorem once_mem:∀ (l:List Int) (v:Int),v∈once l↔v∈l
 | [],v=>by simp [once]
 | [x],v=>by simp [once]
 | x::y::l,v=>by
  rw [once]
  split
  ·rename_i h
   subst h
   rw [once_mem (x::l) v]
   simp
  ·rw [List.mem_cons,once_mem (y::l) v,List.mem_cons (b:=x)]
theorem once_rising:∀ l:List Int,l.Pairwise (·≤·)→(once l).Pairwise (·<·)
 | [],_=>by simp [once]
 | [x],_=>by simp [once]
 | x::y::l,h=>by
  rw [once]
  have h2:=List.pairwise_cons.1 h
  split
  ·exact once_rising (y::l) h2.2
  ·rename_i hne
   refine List.pairwise_cons.2 ⟨fun v hv=>?_,once_rising (y::l) h2.2⟩
   have hm:=(once_mem (y::l) v).1 hv
   have h3:=List.pairwise_cons.1 h2.2
   have h4:=h2.1 y (by simp)
   rcases List.mem_cons.1 hm with rfl | hm
   ·omega
   ·have:=h3.1 v hm;omega
theorem rising_eq:∀ a b:List Int,a.Pairwise (·<·)→b.Pairwise (·<·)→(∀ v,v∈a↔v∈b)→a=b
 | [],[],_,_,_=>rfl
 | [],y::b,_,_,h=>by have:=(h y).2 (by simp);simp at this
 | x::a,[],_,_,h=>by have:=(h x).1 (by simp);simp at this
 | x::a,y::b,ha,hb,h=>by
  have ha':=List.pairwise_cons.1 ha
  have hb':=List.pairwise_cons.1 hb
  have e:x=y:=by
   have h1:=(h x).1 (by simp)
   have h2:=(h y).2 (by simp)
   rcases List.mem_cons.1 h1 with h1 | h1
   ·exact h1
   ·rcases List.mem_cons.1 h2 with h2 | h2
    ·exact h2.symm
    ·have:=ha'.1 y h2;have:=hb'.1 x h1;omega
  subst e
  rw [rising_eq a b ha'.2 hb'.2 fun v=>⟨fun hv=>?_,fun hv=>?_⟩]
  ·have h1:=(h v).1 (List.mem_cons_of_mem _ hv)
   rcases List.mem_cons.1 h1 with h1 | h1
   ·have:=ha'.1 v hv;omega
   ·exact h1
  ·have h1:=(h v).2 (List.mem_cons_of_mem _ hv)
   rcases List.mem_cons.1 h1 with h1 | h1
   ·have:=hb'.1 v hv;omega
   ·exact h1
def values (f:Int) (p:T):List Int:=once ((vals f p).mergeSort fun x y=>decide (x≤y))
theorem values_mem (f:Int) (p:T) (v:Int):v∈values f p↔v∈vals f p:=by
 unfold values
 rw [once_mem]
 exact List.mem_mergeSort
theorem top_nonneg (f:Int):0≤top f:=by unfold top;split<;>first | omega | (split<;>first | omega | (split<;>omega))
end Pd
namespace Po
mutual
def vals (f:Int):T→List Int
 | .mk k p a v l=>(if k=2∧a=f then [v] else [])++Pd.values f p++valsL f l
def valsL (f:Int):List T→List Int
 | []=>[]
 | x::l=>vals f x++valsL f l
end
theorem valsL_append (f:Int) (a b:List T):valsL f (a++b)=valsL f a++valsL f b:=by
 induction a with
 | nil=>rfl
 | cons p a ih=>rw [List.cons_append,valsL,valsL,ih,List.append_assoc]
theorem valsL_take (f:Int) {l:List T} {k:Nat} (h:k<l.length):valsL f (l.take (k+1))=valsL f (l.take k)++vals f l[k]:=by
 rw [List.take_add_one,List.getElem?_eq_getElem h,valsL_append]
 congr 1
 show vals f l[k]++[]=_
 simp
theorem once_len:∀ l:List Int,(Pd.once l).length≤l.length
 | []=>by simp [Pd.once]
 | [x]=>by simp [Pd.once]
 | x::y::l=>by
  have:=once_len (y::l)
  rw [Pd.once]
  split
  ·simp only [List.length_cons] at *;omega
  ·simp only [List.length_cons] at *;omega
theorem pvalues_len (f:Int) (p:Pd.T):(Pd.values f p).length≤Pd.size p:=by
 have h1:=once_len ((Pd.vals f p).mergeSort fun x y=>decide (x≤y))
 rw [List.length_mergeSort] at h1
 exact Nat.le_trans h1 (Pd.vals_len f p)
mutual
theorem vals_len (f:Int):∀ x:T,(vals f x).length≤tot x
 | .mk k p a v l=>by
  have:=valsL_len f l
  have:=pvalues_len f p
  rw [vals,tot,List.length_append,List.length_append]
  split
  ·simp;omega
  ·simp;omega
theorem valsL_len (f:Int):∀ l:List T,(valsL f l).length≤totL l
 | []=>by simp [valsL]
 | p::l=>by have:=vals_len f p;have:=valsL_len f l;rw [valsL,totL,List.length_append];omega
end
theorem right_fits {p:Pd.T} (h:Pd.right p=true):Pd.fits p=true:=by
 unfold Pd.right at h
 simp only [Bool.and_eq_true,decide_eq_true_eq] at h
 exact h.1
mutual
theorem vals_top (f:Int):∀ x:T,fits x=true→∀ v∈vals f x,0≤v∧v≤Pd.top f
 | .mk k p a w l,h,v,hv=>by
  obtain ⟨hs,hl⟩:=fits_mk h
  rw [vals,List.mem_append,List.mem_append] at hv
  rcases hv with (hv | hv) | hv
  ·split at hv
   ·rename_i hk
    obtain ⟨rfl,rfl⟩:=hk
    rw [List.mem_singleton.1 hv]
    rcases hs with ⟨e,_⟩ | ⟨_,_,_,h1,_⟩ | ⟨e,_⟩ | ⟨e,_⟩
    ·omega
    ·exact h1
    ·omega
    ·omega
   ·simp at hv
  ·rw [Pd.values_mem] at hv
   have hr:Pd.right p=true∨none p=true:=by
    rcases hs with ⟨_,h1,_⟩ | ⟨_,h1,_⟩ | ⟨_,h1,_⟩ | ⟨_,h1,_⟩
    ·exact .inl h1
    ·exact .inr h1
    ·exact .inr h1
    ·exact .inl h1
   rcases hr with hr | hr
   ·exact Pd.vals_top f p (right_fits hr) v hv
   ·rw [(Pd.same_eq _ _).1 hr] at hv
    simp [noneP,Pd.vals,Pd.valsL] at hv
  ·exact valsL_top f l hl v hv
theorem valsL_top (f:Int):∀ l:List T,(∀ x∈l,fits x=true)→∀ v∈valsL f l,0≤v∧v≤Pd.top f
 | [],_,v,hv=>by simp [valsL] at hv
 | x::l,h,v,hv=>by
  rw [valsL,List.mem_append] at hv
  rcases hv with hv | hv
  ·exact vals_top f x (h x (by simp)) v hv
  ·exact valsL_top f l (fun y hy=>h y (List.mem_cons_of_mem _ hy)) v hv
end
def values (f:Int) (x:T):List Int:=Pd.once ((vals f x).mergeSort fun x y=>decide (x≤y))
theorem values_mem (f:Int) (x:T) (v:Int):v∈values f x↔v∈vals f x:=by
 unfold values
 rw [Pd.once_mem]
 exact List.mem_mergeSort
theorem values_len (f:Int) (x:T):(values f x).length≤tot x:=by
 have h1:=once_len ((vals f x).mergeSort fun x y=>decide (x≤y))
 rw [List.length_mergeSort] at h1
 exact Nat.le_trans h1 (vals_len f x)
theorem values_rising (f:Int) (x:T):(values f x).Pairwise (·<·):=by
 refine Pd.once_rising _ ?_
 have:=List.pairwise_mergeSort (le:=fun x y:Int=>decide (x≤y)) (fun a b c h1 h2=>by simp at *;omega) (fun a b=>by simp;omega) (vals f x)
 exact this.imp fun h=>by simpa using h
def asked (f:Int) (x:T) (n:Nat):List Int:=((List.range n).filter fun (v:Nat)=>decide ((v:Int)∈vals f x)).map fun (v:Nat)=>(v:Int)
theorem asked_next (f:Int) (x:T) (n:Nat):asked f x (n+1)=asked f x n++(if (n:Int)∈vals f x then [(n:Int)] else []):=by
 unfold asked
 rw [List.range_succ,List.filter_append,List.map_append]
 congr 1
 by_cases h:(n:Int)∈vals f x
 ·simp [h]
 ·simp [h]
theorem asked_mem (f:Int) (x:T) (n:Nat) (v:Int):v∈asked f x n↔(0≤v∧v<n)∧v∈vals f x:=by
 unfold asked
 simp only [List.mem_map,List.mem_filter,List.mem_range,decide_eq_true_eq]
 constructor
 ·rintro ⟨a,⟨h1,h2⟩,rfl⟩
  exact ⟨by omega,h2⟩
 ·rintro ⟨⟨h0,h1⟩,h2⟩
  exact ⟨v.toNat,⟨by omega,by rw [show ((v.toNat:Nat):Int)=v by omega];exact h2⟩,by omega⟩
theorem asked_rising (f:Int) (x:T):∀ n,(asked f x n).Pairwise (·<·)
 | 0=>by simp [asked]
 | n+1=>by
  rw [asked_next]
  refine List.pairwise_append.2 ⟨asked_rising f x n,by split<;>simp,fun a ha b hb=>?_⟩
  have h1:=(asked_mem f x n a).1 ha
  split at hb
  ·rw [List.mem_singleton.1 hb];omega
  ·simp at hb
theorem asked_len (f:Int) (x:T) (n:Nat):(asked f x n).length≤n:=by
 unfold asked
 rw [List.length_map]
 exact Nat.le_trans (List.length_filter_le _ _) (by simp)
theorem asked_values (f:Int) (x:T) (h:fits x=true):asked f x ((Pd.top f).toNat+1)=values f x:=by
 refine Pd.rising_eq _ _ (asked_rising f x _) (values_rising f x) fun v=>?_
 rw [asked_mem,values_mem]
 have:=Pd.top_nonneg f
 exact ⟨fun h=>h.2,fun hv=>⟨by have:=vals_top f x h v hv;omega,hv⟩⟩
end Po
namespace Pd
def fold (k f v out d:Int) (l:List T):T :=
 if l.any (fun x=>decide (x.k=d)) then .mk d 0 0 []
 else match l.filter (fun x=>!decide (x.k=out)) with
  | []=>.mk out 0 0 []
  | [x]=>x
  | x::y::r=>.mk k f v (x::y::r)
mutual
def cut (sw:Int):T→T
 | .mk k f v l=>if k=3∧f=5 then .mk (if v=sw then 1 else 2) 0 0 [] else if k=5 then fold 5 f v 1 2 (cutL sw l) else if k=6 then fold 6 f v 2 1 (cutL sw l)
  else if k=4∧(cut1 sw l).k≤2 then .mk (if (cut1 sw l).k=2 then 1 else 2) 0 0 [] else .mk k f v (cutL sw l)
def cut1 (sw:Int):List T→T
 | []=>.mk 3 0 0 []
 | p::_=>cut sw p
def cutL (sw:Int):List T→List T
 | []=>[]
 | p::l=>cut sw p::cutL sw l
end
theorem cutL_map (sw:Int) (l:List T):cutL sw l=l.map (cut sw):=by
 induction l with
 | nil=>rfl
 | cons p l ih=>rw [cutL,ih];rfl
theorem cut_sw (sw v:Int) (l:List T):cut sw (.mk 3 5 v l) = .mk (if v=sw then 1 else 2) 0 0 []:=by rw [cut.eq_def];simp
theorem cut_5 (sw f v:Int) (l:List T):cut sw (.mk 5 f v l)=fold 5 f v 1 2 (l.map (cut sw)):=by rw [cut.eq_def];simp [cutL_map]
theorem cut_6 (sw f v:Int) (l:List T):cut sw (.mk 6 f v l)=fold 6 f v 2 1 (l.map (cut sw)):=by rw [cut.eq_def];simp [cutL_map]
theorem cut_4 (sw f v:Int) (q:T):cut sw (.mk 4 f v [q])=if (cut sw q).k≤2 then .mk (if (cut sw q).k=2 then 1 else 2) 0 0 [] else .mk 4 f v [cut sw q]:=by
 rw [cut.eq_def];simp [cutL_map,cut1];rfl
theorem cut_no (sw k f v:Int) (h:¬ (k=3∧f=5)) (h4:¬ (k=4∨k=5∨k=6)):cut sw (.mk k f v []) = .mk k f v []:=by
 rw [cut.eq_def];simp only [not_or] at h4;simp [h,h4,cutL_map]
theorem fits_12 {x:T} (h:fits x=true) (hk:x.k=1∨x.k=2):x = .mk x.k 0 0 []:=by
 obtain ⟨k,f,v,l⟩:=x
 rw [fits,Bool.and_eq_true] at h
 have h1:=h.1
 unfold shape at h1
 rw [decide_eq_true_eq] at h1
 simp only [T.k] at hk ⊢
 have:f=0∧v=0∧l.length=0:=by omega
 obtain ⟨rfl,rfl,hl⟩:=this
 rw [List.eq_nil_of_length_eq_zero hl]
theorem fits_0 {d:Int} (hd:d=1∨d=2):fits (.mk d 0 0 [])=true:=by
 rcases hd with rfl | rfl<;>decide
theorem fits_k {x:T} (h:fits x=true):1≤x.k∧x.k≤6:=by
 obtain ⟨k,f,v,l⟩:=x
 rw [fits,Bool.and_eq_true] at h
 have h1:=h.1
 unfold shape at h1
 rw [decide_eq_true_eq] at h1
 simp only [T.k]
 omega
theorem fits_mk' {k f v:Int} {l:List T}:fits (.mk k f v l)=true↔(k=3∧(0≤f∧f≤5)∧(0≤v∧v≤top f)∧l.length=0∨(k=1∨k=2)∧f=0∧v=0∧l.length=0∨k=4∧f=0∧v=0∧l.length=1∨(k=5∨k=6)∧f=0∧v=0∧2≤l.length∧l.length≤8)∧∀ x∈l,fits x=true:=by
 rw [fits,Bool.and_eq_true,fitsL_iff]
 unfold shape
 rw [decide_eq_true_eq]
theorem size_mk' (k f v:Int) (l:List T):size (.mk k f v l)=1+sizeL l:=by rw [size]
theorem deep_mk' (k f v:Int) (l:List T):deep (.mk k f v l)=1+deepL l:=by rw [deep]
theorem sizeL_filter (q:T→Bool) (l:List T):sizeL (l.filter q)≤sizeL l:=by
 induction l with
 | nil=>simp [sizeL]
 | cons x l ih=>rw [List.filter_cons];split<;>simp only [sizeL]<;>omega
theorem deepL_filter (q:T→Bool) (l:List T):deepL (l.filter q)≤deepL l:=by
 induction l with
 | nil=>simp [deepL]
 | cons x l ih=>rw [List.filter_cons];split<;>simp only [deepL]<;>omega
theorem fold_fits {k out d:Int} {l:List T} (hk:k=5∨k=6) (hd:d=1∨d=2) (ho:out=1∨out=2) (hl:l.length≤8) (h:∀ x∈l,fits x=true):fits (fold k 0 0 out d l)=true:=by
 unfold fold
 split
 ·exact fits_0 hd
 ·have hf:∀ x∈l.filter (fun x=>!decide (x.k=out)),fits x=true:=fun x hx=>h x (List.mem_filter.1 hx).1
  have hlen:=List.length_filter_le (fun x=>!decide (x.k=out)) l
  split
  ·exact fits_0 ho
  ·rename_i x e;rw [e] at hf;exact hf x (by simp)
  ·rename_i x y r e
   rw [e] at hf hlen
   simp only [List.length_cons] at hlen
   exact fits_mk'.2 ⟨.inr (.inr (.inr ⟨hk,rfl,rfl,by simp,by simp only [List.length_cons];omega⟩)),hf⟩
theorem fold_size {k f v out d:Int} {l:List T}:size (fold k f v out d l)≤1+sizeL l:=by
 unfold fold
 split
 ·rw [size_mk'];simp [sizeL]
 ·have hs:=sizeL_filter (fun x=>!decide (x.k=out)) l
  split
  ·rw [size_mk'];simp [sizeL]
  ·rename_i x e;rw [e] at hs;simp only [sizeL] at hs;omega
  ·rename_i x y r e;rw [e] at hs;rw [size_mk'];omega
theorem fold_deep {k f v out d:Int} {l:List T}:deep (fold k f v out d l)≤1+deepL l:=by
 unfold fold
 split
 ·rw [deep_mk'];simp [deepL]
 ·have hs:=deepL_filter (fun x=>!decide (x.k=out)) l
  split
  ·rw [deep_mk'];simp [deepL]
  ·rename_i x e;rw [e] at hs;simp only [deepL] at hs;omega
  ·rename_i x y r e;rw [e] at hs;rw [deep_mk'];omega
theorem vals_mk (g k a v:Int) (l:List T):vals g (.mk k a v l)=(if k=3∧a=g then [v] else [])++valsL g l:=by rw [vals]
theorem valsL_nil {g:Int} {l:List T}:valsL g l=[]↔∀ x∈l,vals g x=[]:=by
 induction l with
 | nil=>simp [valsL]
 | cons x l ih=>simp only [valsL,List.append_eq_nil_iff,ih,List.mem_cons,forall_eq_or_imp]
theorem fold_vals {g k f v out d:Int} {l:List T} (hk:k=5∨k=6) (hd:d=1∨d=2) (ho:out=1∨out=2) (h:∀ x∈l,vals g x=[]):vals g (fold k f v out d l)=[]:=by
 unfold fold
 split
 ·rw [vals_mk,if_neg (by omega)];simp [valsL]
 ·have hf:∀ x∈l.filter (fun x=>!decide (x.k=out)),vals g x=[]:=fun x hx=>h x (List.mem_filter.1 hx).1
  split
  ·rw [vals_mk,if_neg (by omega)];simp [valsL]
  ·rename_i x e;rw [e] at hf;exact hf x (by simp)
  ·rename_i x y r e
   rw [e] at hf
   rw [vals_mk,if_neg (by omega),valsL_nil.2 hf]
   rfl
theorem hits_mk1 (x:At) (f v:Int) (l:List T):hits x (.mk 1 f v l)=true:=by rw [hits.eq_def];simp
theorem hits_mk2 (x:At) (f v:Int) (l:List T):hits x (.mk 2 f v l)=false:=by rw [hits.eq_def];simp
theorem hits_mk5 (x:At) (f v:Int) (l:List T):hits x (.mk 5 f v l)=hitsAll x l:=by rw [hits.eq_def];simp
theorem hits_mk6 (x:At) (f v:Int) (l:List T):hits x (.mk 6 f v l)=!hitsNone x l:=by rw [hits.eq_def];simp
theorem hits_mk4 (x:At) (f v:Int) (q:T) (l:List T):hits x (.mk 4 f v (q::l))=!hits x q:=by rw [hits.eq_def];simp [hits1]
theorem hitsAll_filter (x:At) (q:T→Bool) (l:List T) (h:∀ y∈l,q y=false→hits x y=true):hitsAll x (l.filter q)=hitsAll x l:=by
 induction l with
 | nil=>rfl
 | cons y l ih =>
  have ih:=ih fun z hz=>h z (List.mem_cons_of_mem _ hz)
  rw [List.filter_cons]
  split
  ·rw [hitsAll,hitsAll,ih]
  ·rename_i hq
   rw [hitsAll,ih,h y (by simp) (by simpa using hq),Bool.true_and]
theorem hitsNone_filter (x:At) (q:T→Bool) (l:List T) (h:∀ y∈l,q y=false→hits x y=false):hitsNone x (l.filter q)=hitsNone x l:=by
 induction l with
 | nil=>rfl
 | cons y l ih =>
  have ih:=ih fun z hz=>h z (List.mem_cons_of_mem _ hz)
  rw [List.filter_cons]
  split
  ·rw [hitsNone,hitsNone,ih]
  ·rename_i hq
   rw [hitsNone,ih,h y (by simp) (by simpa using hq),Bool.not_false,Bool.true_and]
theorem hits_12 (x:At) {y:T} (h:y.k=1∨y.k=2):hits x y=decide (y.k=1):=by
 obtain ⟨k,f,v,l⟩:=y
 simp only [T.k] at h ⊢
 rcases h with rfl | rfl
 ·rw [hits_mk1];rfl
 ·rw [hits_mk2];rfl
theorem any_k {l:List T} {d:Int} (h:(l.any fun x=>decide (x.k=d))=true):∃ y∈l,y.k=d:=by
 obtain ⟨y,hy,e⟩:=List.any_eq_true.1 h
 exact ⟨y,hy,of_decide_eq_true e⟩
theorem fold_hits5 (x:At) {f v:Int} {l:List T}:hits x (fold 5 f v 1 2 l)=hitsAll x l:=by
 unfold fold
 split
 ·rename_i h
  obtain ⟨y,hy,e⟩:=any_k h
  rw [hits_mk2]
  cases hh:hitsAll x l with
  | false=>rfl
  | true =>
   have:=(hitsAll_iff x l).1 hh y hy
   rw [hits_12 x (.inr e),e] at this
   exact absurd this (by decide)
 ·have hf:=hitsAll_filter x (fun y=>!decide (y.k=1)) l fun y _ h=>by
   have:y.k=1:=by simpa using h
   rw [hits_12 x (.inl this),this];rfl
  rw [← hf]
  split
  ·rename_i e;rw [e,hits_mk1];rfl
  ·rename_i y e;rw [e];simp [hitsAll]
  ·rename_i y z r e;rw [e,hits_mk5]
theorem fold_hits6 (x:At) {f v:Int} {l:List T}:hits x (fold 6 f v 2 1 l)=!hitsNone x l:=by
 unfold fold
 split
 ·rename_i h
  obtain ⟨y,hy,e⟩:=any_k h
  rw [hits_mk1]
  cases hh:hitsNone x l with
  | false=>rfl
  | true =>
   have:=(hitsNone_iff x l).1 hh y hy
   rw [hits_12 x (.inl e),e] at this
   exact absurd this (by decide)
 ·have hf:=hitsNone_filter x (fun y=>!decide (y.k=2)) l fun y _ h=>by
   have:y.k=2:=by simpa using h
   rw [hits_12 x (.inr this),this];rfl
  rw [← hf]
  split
  ·rename_i e;rw [e,hits_mk2];rfl
  ·rename_i y e;rw [e];simp [hitsNone]
  ·rename_i y z r e;rw [e,hits_mk6]
theorem cut_facts (x:At):∀ (n:Nat) (p:T),size p≤n→fits p=true→fits (cut x.sw p)=true∧size (cut x.sw p)≤size p∧deep (cut x.sw p)≤deep p∧vals 5 (cut x.sw p)=[]∧hits x (cut x.sw p)=hits x p
 | 0,p,hn,_=>absurd (size_pos p) (by omega)
 | n+1,⟨k,f,v,l⟩,hn,h=>by
  have ih:∀ y∈l,fits (cut x.sw y)=true∧size (cut x.sw y)≤size y∧deep (cut x.sw y)≤deep y∧vals 5 (cut x.sw y)=[]∧hits x (cut x.sw y)=hits x y:=fun y hy =>
   cut_facts x n y (by have:=size_lt (k:=k) (f:=f) (v:=v) hy;omega) ((fits_mk'.1 h).2 y hy)
  have hsz:sizeL (l.map (cut x.sw))≤sizeL l:=by
   clear hn h
   induction l with
   | nil=>simp [sizeL]
   | cons y l ihl=>have h1:=(ih y (by simp)).2.1;have h2:=ihl fun z hz=>ih z (List.mem_cons_of_mem _ hz);simp only [List.map_cons,sizeL];omega
  have hdp:deepL (l.map (cut x.sw))≤deepL l:=by
   clear hn h hsz
   induction l with
   | nil=>simp [deepL]
   | cons y l ihl=>have h1:=(ih y (by simp)).2.2.1;have h2:=ihl fun z hz=>ih z (List.mem_cons_of_mem _ hz);simp only [List.map_cons,deepL];omega
  have hall:hitsAll x (l.map (cut x.sw))=hitsAll x l:=by
   clear hn h hsz hdp
   induction l with
   | nil=>rfl
   | cons y l ihl=>rw [List.map_cons,hitsAll,hitsAll,(ih y (by simp)).2.2.2.2,ihl fun z hz=>ih z (List.mem_cons_of_mem _ hz)]
  have hnone:hitsNone x (l.map (cut x.sw))=hitsNone x l:=by
   clear hn h hsz hdp hall
   induction l with
   | nil=>rfl
   | cons y l ihl=>rw [List.map_cons,hitsNone,hitsNone,(ih y (by simp)).2.2.2.2,ihl fun z hz=>ih z (List.mem_cons_of_mem _ hz)]
  have hfm:∀ y∈l.map (cut x.sw),fits y=true:=fun y hy=>by obtain ⟨z,hz,rfl⟩:=List.mem_map.1 hy;exact (ih z hz).1
  have hvm:∀ y∈l.map (cut x.sw),vals 5 y=[]:=fun y hy=>by obtain ⟨z,hz,rfl⟩:=List.mem_map.1 hy;exact (ih z hz).2.2.2.1
  have hsh:=(fits_mk'.1 h).1
  have hs:=size_mk' k f v l
  have hd:=deep_mk' k f v l
  by_cases h35:k=3∧f=5
  ·obtain ⟨rfl,rfl⟩:=h35
   rw [cut_sw]
   have hl0:l=[]:=List.eq_nil_of_length_eq_zero (by omega)
   subst hl0
   have e:hits x (.mk 3 5 v [])=decide (x.sw=v):=by rw [hits.eq_def];simp [get]
   rw [e]
   by_cases hv:v=x.sw
   ·rw [if_pos hv]
    refine ⟨fits_0 (.inl rfl),by simp [size,sizeL],by simp [deep,deepL],by simp [vals,valsL],?_⟩
    rw [hits_mk1,decide_eq_true hv.symm]
   ·rw [if_neg hv]
    refine ⟨fits_0 (.inr rfl),by simp [size,sizeL],by simp [deep,deepL],by simp [vals,valsL],?_⟩
    rw [hits_mk2,decide_eq_false (fun e=>hv e.symm)]
  by_cases h5:k=5
  ·subst h5
   obtain ⟨rfl,rfl,hl2,hl8⟩:f=0∧v=0∧2≤l.length∧l.length≤8:=by omega
   rw [cut_5]
   have h1:=fold_size (k:=5) (f:=0) (v:=0) (out:=1) (d:=2) (l:=l.map (cut x.sw))
   have h2:=fold_deep (k:=5) (f:=0) (v:=0) (out:=1) (d:=2) (l:=l.map (cut x.sw))
   exact ⟨fold_fits (.inl rfl) (.inr rfl) (.inl rfl) (by simpa using hl8) hfm,by omega,by omega,fold_vals (.inl rfl) (.inr rfl) (.inl rfl) hvm,by rw [fold_hits5,hits_mk5,hall]⟩
  by_cases h6:k=6
  ·subst h6
   obtain ⟨rfl,rfl,hl2,hl8⟩:f=0∧v=0∧2≤l.length∧l.length≤8:=by omega
   rw [cut_6]
   have h1:=fold_size (k:=6) (f:=0) (v:=0) (out:=2) (d:=1) (l:=l.map (cut x.sw))
   have h2:=fold_deep (k:=6) (f:=0) (v:=0) (out:=2) (d:=1) (l:=l.map (cut x.sw))
   exact ⟨fold_fits (.inr rfl) (.inl rfl) (.inr rfl) (by simpa using hl8) hfm,by omega,by omega,fold_vals (.inr rfl) (.inl rfl) (.inr rfl) hvm,by rw [fold_hits6,hits_mk6,hnone]⟩
  by_cases h4:k=4
  ·subst h4
   obtain ⟨rfl,rfl,hl1⟩:f=0∧v=0∧l.length=1:=by omega
   match l,hl1 with
   | [q],_ =>
    obtain ⟨f1,f2,f3,f4,f5⟩:=ih q (by simp)
    rw [cut_4]
    have e:hits x (.mk 4 0 0 [q])=!hits x q:=hits_mk4 ..
    have e2:size (.mk 4 0 0 [q])=1+(size q+0):=by simp [size,sizeL]
    have e3:deep (.mk 4 0 0 [q])=1+max (deep q) 0:=by simp [deep,deepL]
    rw [e,e2,e3]
    generalize cut x.sw q=c at *
    by_cases hc:c.k≤2
    ·rw [if_pos hc]
     have hk:=fits_k f1
     have hh:=hits_12 x (y:=c) (by omega)
     by_cases hc2:c.k=2
     ·rw [if_pos hc2]
      refine ⟨fits_0 (.inl rfl),by simp [size,sizeL],by simp [deep,deepL],by simp [vals,valsL],?_⟩
      rw [hits_mk1,← f5,hh,hc2];rfl
     ·rw [if_neg hc2]
      refine ⟨fits_0 (.inr rfl),by simp [size,sizeL],by simp [deep,deepL],by simp [vals,valsL],?_⟩
      rw [hits_mk2,← f5,hh,show c.k=1 by omega];rfl
    ·rw [if_neg hc]
     refine ⟨fits_mk'.2 ⟨by simp,fun y hy=>by rw [List.mem_singleton.1 hy];exact f1⟩,by simp only [size,sizeL];omega,by simp only [deep,deepL];omega,by simp [vals,valsL,f4],?_⟩
     rw [hits_mk4,f5]
  ·have hl0:l=[]:=List.eq_nil_of_length_eq_zero (by omega)
   subst hl0
   rw [cut_no _ _ _ _ h35 (by omega)]
   refine ⟨h,Nat.le_refl _,Nat.le_refl _,?_,rfl⟩
   rw [vals_mk,if_neg h35];rfl
theorem cut_right (x:At) (p:T) (h:right p=true):right (cut x.sw p)=true:=by
 unfold right at h ⊢
 simp only [Bool.and_eq_true,decide_eq_true_eq] at h ⊢
 obtain ⟨h1,h2,h3,_⟩:=cut_facts x _ p (Nat.le_refl _) h.1
 exact ⟨h1,by omega,by omega⟩
theorem cut_fits (sw:Int) (p:T) (h:fits p=true):fits (cut sw p)=true:=(cut_facts ⟨sw,0,0,0,0,0⟩ _ p (Nat.le_refl _) h).1
theorem cut_vals (sw:Int) (p:T) (h:fits p=true):vals 5 (cut sw p)=[]:=(cut_facts ⟨sw,0,0,0,0,0⟩ _ p (Nat.le_refl _) h).2.2.2.1
end Pd
end Go.Proofs.YtaolcaggdddkpaaGreat
