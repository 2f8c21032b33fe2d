import Derived.Test.YtmehinfgdcmmjaaGreatJ1
namespace Go.Proofs.YtmehinfgdcmmjaaGreat
open Go.Sx
set_option maxRecDepth 20000
set_option linter.unusedVariables false
namespace Po
mutual
def vals (f:Int):T→List Int
 | .mk k p a v l=>(if k=2∧a=f then [v] else [])++Pd.values f p++valsL f l
def valsL (f:Int):List T→List Int
 | []=>[]
 | x::l=>vals f x++valsL f l
end
theorem valsL_append (f:Int) (a b:List T):valsL f (a++b)=valsL f a++valsL f b:=by
 induction a with
 | nil=>rfl
 | cons p a ih=>rw [List.cons_append,valsL,valsL,ih,List.append_assoc]
theorem valsL_take (f:Int) {l:List T} {k:Nat} (h:k<l.length):valsL f (l.take (k+1))=valsL f (l.take k)++vals f l[k]:=by
 rw [List.take_add_one,List.getElem?_eq_getElem h,valsL_append]
 congr 1
 show vals f l[k]++[]=_
 simp
theorem gh:∀ l:List Int,(Pd.once l).length≤l.length
 | []=>by simp [Pd.once]
 | [x]=>by simp [Pd.once]
 | x::y::l=>by
  have:=gh (y::l)
  rw [Pd.once]
  split
  iterate 2
   ·simp only [List.length_cons] at *;omega
theorem pvalues_len (f:Int) (p:Pd.T):(Pd.values f p).length≤Pd.size p:=by
 have h1:=gh ((Pd.vals f p).mergeSort fun x y=>decide (x≤y))
 rw [List.length_mergeSort] at h1
 exact Nat.le_trans h1 (Pd.vals_len f p)
mutual
theorem vals_len (f:Int):∀ x:T,(vals f x).length≤tot x
 | .mk k p a v l=>by
  have:=valsL_len f l
  have:=pvalues_len f p
  rw [vals,tot,List.length_append,List.length_append]
  split
  ·simp;omega
  ·simp;omega
theorem valsL_len (f:Int):∀ l:List T,(valsL f l).length≤totL l
 | []=>by simp [valsL]
 | p::l=>by have:=vals_len f p;have:=valsL_len f l;rw [valsL,totL,List.length_append];omega
end
theorem right_fits {p:Pd.T} (h:Pd.right p=true):Pd.fits p=true:=by
 unfold Pd.right at h
 simp only [Bool.and_eq_true,decide_eq_true_eq] at h
 exact h.1
mutual
theorem vals_top (f:Int):∀ x:T,fits x=true→∀ v∈vals f x,0≤v∧v≤Pd.top f
 | .mk k p a w l,h,v,hv=>by
  obtain ⟨hs,hl⟩:=fits_mk h
  rw [vals,List.mem_append,List.mem_append] at hv
  rcases hv with (hv | hv) | hv
  ·split at hv
   ·rename_i hk
    obtain ⟨rfl,rfl⟩:=hk
    rw [List.mem_singleton.1 hv]
    rcases hs with ⟨e,_⟩ | ⟨_,_,_,h1,_⟩ | ⟨e,_⟩ | ⟨e,_⟩
    ·omega
    ·exact h1
    ·omega
    ·omega
   ·simp at hv
  ·rw [Pd.values_mem] at hv
   have hr:Pd.right p=true∨none p=true:=by
    rcases hs with ⟨_,h1,_⟩ | ⟨_,h1,_⟩ | ⟨_,h1,_⟩ | ⟨_,h1,_⟩
    ·exact .inl h1
    ·exact .inr h1
    ·exact .inr h1
    ·exact .inl h1
   rcases hr with hr | hr
   ·exact Pd.vals_top f p (right_fits hr) v hv
   ·rw [(Pd.same_eq _ _).1 hr] at hv
    simp [noneP,Pd.vals,Pd.valsL] at hv
  ·exact valsL_top f l hl v hv
theorem valsL_top (f:Int):∀ l:List T,(∀ x∈l,fits x=true)→∀ v∈valsL f l,0≤v∧v≤Pd.top f
 | [],_,v,hv=>by simp [valsL] at hv
 | x::l,h,v,hv=>by
  rw [valsL,List.mem_append] at hv
  rcases hv with hv | hv
  ·exact vals_top f x (h x (by simp)) v hv
  ·exact valsL_top f l (fun y hy=>h y (List.mem_cons_of_mem _ hy)) v hv
end
def values (f:Int) (x:T):List Int:=Pd.once ((vals f x).mergeSort fun x y=>decide (x≤y))
theorem values_mem (f:Int) (x:T) (v:Int):v∈values f x↔v∈vals f x:=by
 unfold values
 rw [Pd.once_mem]
 exact List.mem_mergeSort
theorem values_len (f:Int) (x:T):(values f x).length≤tot x:=by
 have h1:=gh ((vals f x).mergeSort fun x y=>decide (x≤y))
 rw [List.length_mergeSort] at h1
 exact Nat.le_trans h1 (vals_len f x)
theorem values_rising (f:Int) (x:T):(values f x).Pairwise (·<·):=by
 refine Pd.once_rising _ ?_
 have:=List.pairwise_mergeSort (le:=fun x y:Int=>decide (x≤y)) (fun a b c h1 h2=>by simp at *;omega) (fun a b=>by simp;omega) (vals f x)
 exact this.imp fun h=>by simpa using h
def asked (f:Int) (x:T) (n:Nat):List Int:=((List.range n).filter fun (v:Nat)=>decide ((v:Int)∈vals f x)).map fun (v:Nat)=>(v:Int)
theorem asked_next (f:Int) (x:T) (n:Nat):asked f x (n+1)=asked f x n++(if (n:Int)∈vals f x then [(n:Int)] else []):=by
 unfold asked
 rw [List.range_succ,List.filter_append,List.map_append]
 congr 1
 by_cases h:(n:Int)∈vals f x
 ·simp [h]
 ·simp [h]
theorem asked_mem (f:Int) (x:T) (n:Nat) (v:Int):v∈asked f x n↔(0≤v∧v<n)∧v∈vals f x:=by
 unfold asked
 simp only [List.mem_map,List.mem_filter,List.mem_range,decide_eq_true_eq]
 constructor
 ·rintro ⟨a,⟨h1,h2⟩,rfl⟩
  exact ⟨by omega,h2⟩
 ·rintro ⟨⟨h0,h1⟩,h2⟩
  exact ⟨v.toNat,⟨by omega,by rw [show ((v.toNat:Nat):Int)=v by omega];exact h2⟩,by omega⟩
theorem asked_rising (f:Int) (x:T):∀ n,(asked f x n).Pairwise (·<·)
 | 0=>by simp [asked]
 | n+1=>by
  rw [asked_next]
  refine List.pairwise_append.2 ⟨asked_rising f x n,by split<;>simp,fun a ha b hb=>?_⟩
  have h1:=(asked_mem f x n a).1 ha
  split at hb
  ·rw [List.mem_singleton.1 hb];omega
  ·simp at hb
theorem asked_len (f:Int) (x:T) (n:Nat):(asked f x n).length≤n:=by
 unfold asked
 rw [List.length_map]
 exact Nat.le_trans (List.length_filter_le _ _) (by simp)
theorem asked_values (f:Int) (x:T) (h:fits x=true):asked f x ((Pd.top f).toNat+1)=values f x:=by
 refine Pd.rising_eq _ _ (asked_rising f x _) (values_rising f x) fun v=>?_
 rw [asked_mem,values_mem]
 have:=Pd.top_nonneg f
 exact ⟨fun h=>h.2,fun hv=>⟨by have:=vals_top f x h v hv;omega,hv⟩⟩
end Po
open Go.Sx
set_option maxRecDepth 20000
set_option linter.unusedVariables false
namespace Pd
def fold (k f v out d:Int) (l:List T):T :=
 if l.any (fun x=>decide (x.k=d)) then .mk d 0 0 []
 else match l.filter (fun x=>!decide (x.k=out)) with
  | []=>.mk out 0 0 []
  | [x]=>x
  | x::y::r=>.mk k f v (x::y::r)
mutual
def cut (sw:Int):T→T
 | .mk k f v l=>if k=3∧f=5 then .mk (if v=sw then 1 else 2) 0 0 [] else if k=5 then fold 5 f v 1 2 (cutL sw l) else if k=6 then fold 6 f v 2 1 (cutL sw l)
  else if k=4∧(cut1 sw l).k≤2 then .mk (if (cut1 sw l).k=2 then 1 else 2) 0 0 [] else .mk k f v (cutL sw l)
def cut1 (sw:Int):List T→T
 | []=>.mk 3 0 0 []
 | p::_=>cut sw p
def cutL (sw:Int):List T→List T
 | []=>[]
 | p::l=>cut sw p::cutL sw l
end
theorem cutL_map (sw:Int) (l:List T):cutL sw l=l.map (cut sw):=by
 induction l with
 | nil=>rfl
 | cons p l ih=>rw [cutL,ih];rfl
theorem cut_sw (sw v:Int) (l:List T):cut sw (.mk 3 5 v l) = .mk (if v=sw then 1 else 2) 0 0 []:=by rw [cut.eq_def];simp
theorem cut_5 (sw f v:Int) (l:List T):cut sw (.mk 5 f v l)=fold 5 f v 1 2 (l.map (cut sw)):=by rw [cut.eq_def];simp [cutL_map]
theorem cut_6 (sw f v:Int) (l:List T):cut sw (.mk 6 f v l)=fold 6 f v 2 1 (l.map (cut sw)):=by rw [cut.eq_def];simp [cutL_map]
theorem cut_4 (sw f v:Int) (q:T):cut sw (.mk 4 f v [q])=if (cut sw q).k≤2 then .mk (if (cut sw q).k=2 then 1 else 2) 0 0 [] else .mk 4 f v [cut sw q]:=by
 rw [cut.eq_def];simp [cutL_map,cut1];rfl
theorem cut_no (sw k f v:Int) (h:¬ (k=3∧f=5)) (h4:¬ (k=4∨k=5∨k=6)):cut sw (.mk k f v []) = .mk k f v []:=by
 rw [cut.eq_def];simp only [not_or] at h4;simp [h,h4,cutL_map]
theorem fits_0 {d:Int} (hd:d=1∨d=2):fits (.mk d 0 0 [])=true:=by
 rcases hd with rfl | rfl<;>decide
theorem fits_k {x:T} (h:fits x=true):1≤x.k∧x.k≤6:=by
 obtain ⟨k,f,v,l⟩:=x
 rw [fits,Bool.and_eq_true] at h
 have h1:=h.1
 unfold shape at h1
 rw [decide_eq_true_eq] at h1
 simp only [T.k]
 omega
theorem fits_mk' {k f v:Int} {l:List T}:fits (.mk k f v l)=true↔(k=3∧(0≤f∧f≤5)∧(0≤v∧v≤top f)∧l.length=0∨(k=1∨k=2)∧f=0∧v=0∧l.length=0∨k=4∧f=0∧v=0∧l.length=1∨(k=5∨k=6)∧f=0∧v=0∧2≤l.length∧l.length≤8)∧∀ x∈l,fits x=true:=by
 rw [fits,Bool.and_eq_true,fitsL_iff]
 unfold shape
 rw [decide_eq_true_eq]
theorem size_mk' (k f v:Int) (l:List T):size (.mk k f v l)=1+sizeL l:=by rw [size]
theorem deep_mk' (k f v:Int) (l:List T):deep (.mk k f v l)=1+deepL l:=by rw [deep]
theorem sizeL_filter (q:T→Bool) (l:List T):sizeL (l.filter q)≤sizeL l:=by
 induction l with
 | nil=>simp [sizeL]
 | cons x l ih=>rw [List.filter_cons];split<;>simp only [sizeL]<;>omega
theorem deepL_filter (q:T→Bool) (l:List T):deepL (l.filter q)≤deepL l:=by
 induction l with
 | nil=>simp [deepL]
 | cons x l ih=>rw [List.filter_cons];split<;>simp only [deepL]<;>omega
theorem fold_fits {k out d:Int} {l:List T} (hk:k=5∨k=6) (hd:d=1∨d=2) (ho:out=1∨out=2) (hl:l.length≤8) (h:∀ x∈l,fits x=true):fits (fold k 0 0 out d l)=true:=by
 unfold fold
 split
 ·exact fits_0 hd
 ·have hf:∀ x∈l.filter (fun x=>!decide (x.k=out)),fits x=true:=fun x hx=>h x (List.mem_filter.1 hx).1
  have hlen:=List.length_filter_le (fun x=>!decide (x.k=out)) l
  split
  ·exact fits_0 ho
  ·rename_i x e;rw [e] at hf;exact hf x (by simp)
  ·rename_i x y r e
   rw [e] at hf hlen
   simp only [List.length_cons] at hlen
   exact fits_mk'.2 ⟨.inr (.inr (.inr ⟨hk,rfl,rfl,by simp,by simp only [List.length_cons];omega⟩)),hf⟩
theorem fold_size {k f v out d:Int} {l:List T}:size (fold k f v out d l)≤1+sizeL l:=by
 unfold fold
 split
 ·rw [size_mk'];simp [sizeL]
 ·have hs:=sizeL_filter (fun x=>!decide (x.k=out)) l
  split
  ·rw [size_mk'];simp [sizeL]
  ·rename_i x e;rw [e] at hs;simp only [sizeL] at hs;omega
  ·rename_i x y r e;rw [e] at hs;rw [size_mk'];omega
theorem fold_deep {k f v out d:Int} {l:List T}:deep (fold k f v out d l)≤1+deepL l:=by
 unfold fold
 split
 ·rw [deep_mk'];simp [deepL]
 ·have hs:=deepL_filter (fun x=>!decide (x.k=out)) l
  split
  ·rw [deep_mk'];simp [deepL]
  ·rename_i x e;rw [e] at hs;simp only [deepL] at hs;omega
  ·rename_i x y r e;rw [e] at hs;rw [deep_mk'];omega
theorem vals_mk (g k a v:Int) (l:List T):vals g (.mk k a v l)=(if k=3∧a=g then [v] else [])++valsL g l:=by rw [vals]
theorem valsL_nil {g:Int} {l:List T}:valsL g l=[]↔∀ x∈l,vals g x=[]:=by
 induction l with
 | nil=>simp [valsL]
 | cons x l ih=>simp only [valsL,List.append_eq_nil_iff,ih,List.mem_cons,forall_eq_or_imp]
theorem fold_vals {g k f v out d:Int} {l:List T} (hk:k=5∨k=6) (hd:d=1∨d=2) (ho:out=1∨out=2) (h:∀ x∈l,vals g x=[]):vals g (fold k f v out d l)=[]:=by
 unfold fold
 split
 ·rw [vals_mk,if_neg (by omega)];simp [valsL]
 ·have hf:∀ x∈l.filter (fun x=>!decide (x.k=out)),vals g x=[]:=fun x hx=>h x (List.mem_filter.1 hx).1
  split
  ·rw [vals_mk,if_neg (by omega)];simp [valsL]
  ·rename_i x e;rw [e] at hf;exact hf x (by simp)
  ·rename_i x y r e
   rw [e] at hf
   rw [vals_mk,if_neg (by omega),valsL_nil.2 hf]
   rfl
theorem hits_mk1 (x:At) (f v:Int) (l:List T):hits x (.mk 1 f v l)=true:=by rw [hits.eq_def];simp
theorem hits_mk2 (x:At) (f v:Int) (l:List T):hits x (.mk 2 f v l)=false:=by rw [hits.eq_def];simp
theorem hits_mk5 (x:At) (f v:Int) (l:List T):hits x (.mk 5 f v l)=hitsAll x l:=by rw [hits.eq_def];simp
theorem hits_mk6 (x:At) (f v:Int) (l:List T):hits x (.mk 6 f v l)=!hitsNone x l:=by rw [hits.eq_def];simp
theorem hits_mk4 (x:At) (f v:Int) (q:T) (l:List T):hits x (.mk 4 f v (q::l))=!hits x q:=by rw [hits.eq_def];simp [hits1]
theorem hitsAll_filter (x:At) (q:T→Bool) (l:List T) (h:∀ y∈l,q y=false→hits x y=true):hitsAll x (l.filter q)=hitsAll x l:=by
 induction l with
 | nil=>rfl
 | cons y l ih =>
  have ih:=ih fun z hz=>h z (List.mem_cons_of_mem _ hz)
  rw [List.filter_cons]
  split
  ·rw [hitsAll,hitsAll,ih]
  ·rename_i hq
   rw [hitsAll,ih,h y (by simp) (by simpa using hq),Bool.true_and]
theorem hitsNone_filter (x:At) (q:T→Bool) (l:List T) (h:∀ y∈l,q y=false→hits x y=false):hitsNone x (l.filter q)=hitsNone x l:=by
 induction l with
 | nil=>rfl
 | cons y l ih =>
  have ih:=ih fun z hz=>h z (List.mem_cons_of_mem _ hz)
  rw [List.filter_cons]
  split
  ·rw [hitsNone,hitsNone,ih]
  ·rename_i hq
   rw [hitsNone,ih,h y (by simp) (by simpa using hq),Bool.not_false,Bool.true_and]
theorem hits_12 (x:At) {y:T} (h:y.k=1∨y.k=2):hits x y=decide (y.k=1):=by
 obtain ⟨k,f,v,l⟩:=y
 simp only [T.k] at h ⊢
 rcases h with rfl | rfl
 ·rw [hits_mk1];rfl
 ·rw [hits_mk2];rfl
theorem any_k {l:List T} {d:Int} (h:(l.any fun x=>decide (x.k=d))=true):∃ y∈l,y.k=d:=by
 obtain ⟨y,hy,e⟩:=List.any_eq_true.1 h
 exact ⟨y,hy,of_decide_eq_true e⟩
theorem fold_hits5 (x:At) {f v:Int} {l:List T}:hits x (fold 5 f v 1 2 l)=hitsAll x l:=by
 unfold fold
 split
 ·rename_i h
  obtain ⟨y,hy,e⟩:=any_k h
  rw [hits_mk2]
  cases hh:hitsAll x l with
  | false=>rfl
  | true =>
   have:=(hitsAll_iff x l).1 hh y hy
   rw [hits_12 x (.inr e),e] at this
   exact absurd this (by decide)
 ·have hf:=hitsAll_filter x (fun y=>!decide (y.k=1)) l fun y _ h=>by
   have:y.k=1:=by simpa using h
   rw [hits_12 x (.inl this),this];rfl
  rw [← hf]
  split
  ·rename_i e;rw [e,hits_mk1];rfl
  ·rename_i y e;rw [e];simp [hitsAll]
  ·rename_i y z r e;rw [e,hits_mk5]
theorem fold_hits6 (x:At) {f v:Int} {l:List T}:hits x (fold 6 f v 2 1 l)=!hitsNone x l:=by
 unfold fold
 split
 ·rename_i h
  obtain ⟨y,hy,e⟩:=any_k h
  rw [hits_mk1]
  cases hh:hitsNone x l with
  | false=>rfl
  | true =>
   have:=(hitsNone_iff x l).1 hh y hy
   rw [hits_12 x (.inl e),e] at this
   exact absurd this (by decide)
 ·have hf:=hitsNone_filter x (fun y=>!decide (y.k=2)) l fun y _ h=>by
   have:y.k=2:=by simpa using h
   rw [hits_12 x (.inr this),this];rfl
  rw [← hf]
  split
  ·rename_i e;rw [e,hits_mk2];rfl
  ·rename_i y e;rw [e];simp [hitsNone]
  ·rename_i y z r e;rw [e,hits_mk6]
def At.off (x:At):At:={ x with sw:=-1 }
theorem hits_shut (x:At):∀ y:T,vals 5 y=[]→hits x.off y=hits x y:=fun y hv=>hits_alike _ _ y fun f hf v hvf hne=>by
 exfalso
 by_cases h5:f=5
 ·subst h5;rw [hv] at hvf;cases hvf
 ·exact hne (by unfold get At.off;simp [h5])
theorem cut_facts (x:At):∀ (n:Nat) (p:T),size p≤n→fits p=true→fits (cut x.sw p)=true∧size (cut x.sw p)≤size p∧deep (cut x.sw p)≤deep p∧vals 5 (cut x.sw p)=[]∧hits x (cut x.sw p)=hits x p
 | 0,p,hn,_=>absurd (size_pos p) (by omega)
 | n+1,⟨k,f,v,l⟩,hn,h=>by
  have ih:∀ y∈l,fits (cut x.sw y)=true∧size (cut x.sw y)≤size y∧deep (cut x.sw y)≤deep y∧vals 5 (cut x.sw y)=[]∧hits x (cut x.sw y)=hits x y:=fun y hy =>
   cut_facts x n y (by have:=size_lt (k:=k) (f:=f) (v:=v) hy;omega) ((fits_mk'.1 h).2 y hy)
  have hsz:sizeL (l.map (cut x.sw))≤sizeL l:=by
   clear hn h
   induction l with
   | nil=>simp [sizeL]
   | cons y l ihl=>have h1:=(ih y (by simp)).2.1;have h2:=ihl fun z hz=>ih z (List.mem_cons_of_mem _ hz);simp only [List.map_cons,sizeL];omega
  have hdp:deepL (l.map (cut x.sw))≤deepL l:=by
   clear hn h hsz
   induction l with
   | nil=>simp [deepL]
   | cons y l ihl=>have h1:=(ih y (by simp)).2.2.1;have h2:=ihl fun z hz=>ih z (List.mem_cons_of_mem _ hz);simp only [List.map_cons,deepL];omega
  have hall:hitsAll x (l.map (cut x.sw))=hitsAll x l:=by
   clear hn h hsz hdp
   induction l with
   | nil=>rfl
   | cons y l ihl=>rw [List.map_cons,hitsAll,hitsAll,(ih y (by simp)).2.2.2.2,ihl fun z hz=>ih z (List.mem_cons_of_mem _ hz)]
  have hnone:hitsNone x (l.map (cut x.sw))=hitsNone x l:=by
   clear hn h hsz hdp hall
   induction l with
   | nil=>rfl
   | cons y l ihl=>rw [List.map_cons,hitsNone,hitsNone,(ih y (by simp)).2.2.2.2,ihl fun z hz=>ih z (List.mem_cons_of_mem _ hz)]
  have hfm:∀ y∈l.map (cut x.sw),fits y=true:=fun y hy=>by obtain ⟨z,hz,rfl⟩:=List.mem_map.1 hy;exact (ih z hz).1
  have hvm:∀ y∈l.map (cut x.sw),vals 5 y=[]:=fun y hy=>by obtain ⟨z,hz,rfl⟩:=List.mem_map.1 hy;exact (ih z hz).2.2.2.1
  have hsh:=(fits_mk'.1 h).1
  have hs:=size_mk' k f v l
  have hd:=deep_mk' k f v l
  by_cases h35:k=3∧f=5
  ·obtain ⟨rfl,rfl⟩:=h35
   rw [cut_sw]
   have hl0:l=[]:=List.eq_nil_of_length_eq_zero (by omega)
   subst hl0
   have e:hits x (.mk 3 5 v [])=decide (x.sw=v):=by rw [hits.eq_def];simp [get]
   rw [e]
   by_cases hv:v=x.sw
   ·rw [if_pos hv]
    refine ⟨fits_0 (.inl rfl),by simp [size,sizeL],by simp [deep,deepL],by simp [vals,valsL],?_⟩
    rw [hits_mk1,decide_eq_true hv.symm]
   ·rw [if_neg hv]
    refine ⟨fits_0 (.inr rfl),by simp [size,sizeL],by simp [deep,deepL],by simp [vals,valsL],?_⟩
    rw [hits_mk2,decide_eq_false (fun e=>hv e.symm)]
  by_cases h5:k=5
  ·subst h5
   obtain ⟨rfl,rfl,hl2,hl8⟩:f=0∧v=0∧2≤l.length∧l.length≤8:=by omega
   rw [cut_5]
   have h1:=fold_size (k:=5) (f:=0) (v:=0) (out:=1) (d:=2) (l:=l.map (cut x.sw))
   have h2:=fold_deep (k:=5) (f:=0) (v:=0) (out:=1) (d:=2) (l:=l.map (cut x.sw))
   exact ⟨fold_fits (.inl rfl) (.inr rfl) (.inl rfl) (by simpa using hl8) hfm,by omega,by omega,fold_vals (.inl rfl) (.inr rfl) (.inl rfl) hvm,by rw [fold_hits5,hits_mk5,hall]⟩
  by_cases h6:k=6
  ·subst h6
   obtain ⟨rfl,rfl,hl2,hl8⟩:f=0∧v=0∧2≤l.length∧l.length≤8:=by omega
   rw [cut_6]
   have h1:=fold_size (k:=6) (f:=0) (v:=0) (out:=2) (d:=1) (l:=l.map (cut x.sw))
   have h2:=fold_deep (k:=6) (f:=0) (v:=0) (out:=2) (d:=1) (l:=l.map (cut x.sw))
   exact ⟨fold_fits (.inr rfl) (.inl rfl) (.inr rfl) (by simpa using hl8) hfm,by omega,by omega,fold_vals (.inr rfl) (.inl rfl) (.inr rfl) hvm,by rw [fold_hits6,hits_mk6,hnone]⟩
  by_cases h4:k=4
  ·subst h4
   obtain ⟨rfl,rfl,hl1⟩:f=0∧v=0∧l.length=1:=by omega
   match l,hl1 with
   | [q],_ =>
    obtain ⟨f1,f2,f3,f4,f5⟩:=ih q (by simp)
    rw [cut_4]
    have e:hits x (.mk 4 0 0 [q])=!hits x q:=hits_mk4 ..
    have e2:size (.mk 4 0 0 [q])=1+(size q+0):=by simp [size,sizeL]
    have e3:deep (.mk 4 0 0 [q])=1+max (deep q) 0:=by simp [deep,deepL]
    rw [e,e2,e3]
    generalize cut x.sw q=c at *
    by_cases hc:c.k≤2
    ·rw [if_pos hc]
     have hk:=fits_k f1
     have hh:=hits_12 x (y:=c) (by omega)
     by_cases hc2:c.k=2
     ·rw [if_pos hc2]
      refine ⟨fits_0 (.inl rfl),by simp [size,sizeL],by simp [deep,deepL],by simp [vals,valsL],?_⟩
      rw [hits_mk1,← f5,hh,hc2];rfl
     ·rw [if_neg hc2]
      refine ⟨fits_0 (.inr rfl),by simp [size,sizeL],by simp [deep,deepL],by simp [vals,valsL],?_⟩
      rw [hits_mk2,← f5,hh,show c.k=1 by omega];rfl
    ·rw [if_neg hc]
     refine ⟨fits_mk'.2 ⟨by simp,fun y hy=>by rw [List.mem_singleton.1 hy];exact f1⟩,by simp only [size,sizeL];omega,by simp only [deep,deepL];omega,by simp [vals,valsL,f4],?_⟩
     rw [hits_mk4,f5]
  ·have hl0:l=[]:=List.eq_nil_of_length_eq_zero (by omega)
   subst hl0
   rw [cut_no _ _ _ _ h35 (by omega)]
   refine ⟨h,Nat.le_refl _,Nat.le_refl _,?_,rfl⟩
   rw [vals_mk,if_neg h35];rfl
theorem cut_right (x:At) (p:T) (h:right p=true):right (cut x.sw p)=true:=by
 unfold right at h ⊢
 simp only [Bool.and_eq_true,decide_eq_true_eq] at h ⊢
 obtain ⟨h1,h2,h3,_⟩:=cut_facts x _ p (Nat.le_refl _) h.1
 exact ⟨h1,by omega,by omega⟩
theorem cut_fits (sw:Int) (p:T) (h:fits p=true):fits (cut sw p)=true:=(cut_facts ⟨sw,0,0,0,0,0⟩ _ p (Nat.le_refl _) h).1
theorem cut_hits (x:At) (p:T) (h:fits p=true):hits x.off (cut x.sw p)=hits x p:=by
 obtain ⟨_,_,_,h4,h5⟩:=cut_facts x _ p (Nat.le_refl _) h
 rw [hits_shut x _ h4,h5]
theorem cut_vals (sw:Int) (p:T) (h:fits p=true):vals 5 (cut sw p)=[]:=(cut_facts ⟨sw,0,0,0,0,0⟩ _ p (Nat.le_refl _) h).2.2.2.1
end Pd
open Go.Sx
set_option maxRecDepth 20000
set_option linter.unusedVariables false
namespace Po
def zero:T:=.mk 0 noneP 0 0 []
mutual
def spec (sw:Int):T→T
 | .mk k p f v l=>if k=5∧(Pd.cut sw p).k≤2 then (specL sw l)[((Pd.cut sw p).k - 1).toNat]?.getD zero else .mk k (if k=1∨k=5 then Pd.cut sw p else noneP) f v (specL sw l)
def specL (sw:Int):List T→List T
 | []=>[]
 | x::l=>spec sw x::specL sw l
end
theorem specL_map (sw:Int) (l:List T):specL sw l=l.map (spec sw):=by
 induction l with
 | nil=>rfl
 | cons p l ih=>rw [specL,ih];rfl
theorem spec_mk (sw k:Int) (p:Pd.T) (f v:Int) (l:List T):spec sw (.mk k p f v l)=if k=5∧(Pd.cut sw p).k≤2 then (l.map (spec sw))[((Pd.cut sw p).k - 1).toNat]?.getD zero else .mk k (if k=1∨k=5 then Pd.cut sw p else noneP) f v (l.map (spec sw)):=by
 rw [spec.eq_def];simp only [specL_map]
theorem fits_iff {k:Int} {p:Pd.T} {f v:Int} {l:List T}:fits (.mk k p f v l)=true↔(k=1∧Pd.right p=true∧(f=0∧v=0)∧l.length=0∨k=2∧p=noneP∧(0≤f∧f≤4)∧(0≤v∧v≤Pd.top f)∧l.length=0∨(k=3∨k=4)∧p=noneP∧(f=0∧v=0)∧2≤l.length∧l.length≤8∨k=5∧Pd.right p=true∧(f=0∧v=0)∧l.length=2)∧∀ x∈l,fits x=true:=by
 have hl:fitsL l=true↔∀ x∈l,fits x=true:=by
  induction l with
  | nil=>simp [fitsL]
  | cons x l ih=>simp only [fitsL,Bool.and_eq_true,ih,List.mem_cons,forall_eq_or_imp]
 have hn:none p=true↔p=noneP:=Pd.same_eq _ _
 rw [fits,Bool.and_eq_true,hl]
 unfold shape
 rw [decide_eq_true_eq,hn]
theorem right_fits' {x:T} (h:right x=true):fits x=true:=by
 unfold right at h
 simp only [Bool.and_eq_true] at h
 exact h.1
end Po
open Go.Sx
set_option maxRecDepth 20000
set_option linter.unusedVariables false
namespace Pd
theorem mem_valsL {g v:Int} {l:List T}:v∈valsL g l↔∃ x∈l,v∈vals g x:=by
 induction l with
 | nil=>simp [valsL]
 | cons x l ih=>simp only [valsL,List.mem_append,ih,List.mem_cons,exists_eq_or_imp]
theorem fold_sub {g w k f v out d:Int} {l:List T} (hk:k=5∨k=6) (hd:d=1∨d=2) (ho:out=1∨out=2) (h:w∈vals g (fold k f v out d l)):∃ x∈l,w∈vals g x:=by
 unfold fold at h
 split at h
 ·rw [vals_mk,if_neg (by omega)] at h;simp [valsL] at h
 ·have hf:∀ x∈l.filter (fun x=>!decide (x.k=out)),x∈l:=fun x hx=>(List.mem_filter.1 hx).1
  split at h
  ·rw [vals_mk,if_neg (by omega)] at h;simp [valsL] at h
  ·rename_i x e;rw [e] at hf;exact ⟨x,hf x (by simp),h⟩
  ·rename_i x y r e
   rw [e] at hf
   rw [vals_mk,if_neg (by omega),List.nil_append,mem_valsL] at h
   obtain ⟨z,hz,hw⟩:=h
   exact ⟨z,hf z hz,hw⟩
theorem cut_sub (sw g w:Int):∀ (n:Nat) (p:T),size p≤n→fits p=true→w∈vals g (cut sw p)→w∈vals g p
 | 0,p,hn,_,_=>absurd (size_pos p) (by omega)
 | n+1,⟨k,f,v,l⟩,hn,h,hw=>by
  have ih:∀ y∈l,w∈vals g (cut sw y)→w∈vals g y:=fun y hy=>cut_sub sw g w n y (by have:=size_lt (k:=k) (f:=f) (v:=v) hy;omega) ((fits_mk'.1 h).2 y hy)
  have hm:(∃ x∈l.map (cut sw),w∈vals g x)→w∈vals g (.mk k f v l):=fun ⟨x,hx,hv⟩=>by
   obtain ⟨y,hy,rfl⟩:=List.mem_map.1 hx
   rw [vals_mk,List.mem_append,mem_valsL]
   exact .inr ⟨y,hy,ih y hy hv⟩
  have hsh:=(fits_mk'.1 h).1
  by_cases h35:k=3∧f=5
  ·obtain ⟨rfl,rfl⟩:=h35
   rw [cut_sw] at hw
   split at hw<;>simp [vals,valsL] at hw
  by_cases h5:k=5
  ·subst h5
   rw [cut_5] at hw
   exact hm (fold_sub (.inl rfl) (.inr rfl) (.inl rfl) hw)
  by_cases h6:k=6
  ·subst h6
   rw [cut_6] at hw
   exact hm (fold_sub (.inr rfl) (.inl rfl) (.inr rfl) hw)
  by_cases h4:k=4
  ·subst h4
   obtain ⟨rfl,rfl,hl1⟩:f=0∧v=0∧l.length=1:=by omega
   match l,hl1 with
   | [q],_ =>
    rw [cut_4] at hw
    split at hw
    ·split at hw<;>simp [vals,valsL] at hw
    ·rw [vals_mk,List.mem_append,mem_valsL] at hw
     rcases hw with hw | hw
     ·simp at hw
     ·obtain ⟨x,hx,hv⟩:=hw
      rw [List.mem_singleton.1 hx] at hv
      exact hm ⟨_,by simp,hv⟩
  ·have hl0:l=[]:=List.eq_nil_of_length_eq_zero (by omega)
   subst hl0
   rw [cut_no _ _ _ _ h35 (by omega)] at hw
   exact hw
theorem cut_size (sw:Int) (p:T) (h:fits p=true):size (cut sw p)≤size p:=(cut_facts ⟨sw,0,0,0,0,0⟩ _ p (Nat.le_refl _) h).2.1
end Pd
namespace Po
theorem size_mk (k:Int) (p:Pd.T) (f v:Int) (l:List T):size (.mk k p f v l)=1+(if k=2∨k=3∨k=4 then 0 else Pd.size p)+sizeL l:=by rw [size]
theorem deep_mk (k:Int) (p:Pd.T) (f v:Int) (l:List T):deep (.mk k p f v l)=1+deepL l:=by rw [deep]
theorem vals_mk (g k:Int) (p:Pd.T) (f v:Int) (l:List T):vals g (.mk k p f v l)=(if k=2∧f=g then [v] else [])++(Pd.values g p++valsL g l):=by rw [vals,List.append_assoc]
theorem mem_valsL {g v:Int} {l:List T}:v∈valsL g l↔∃ x∈l,v∈vals g x:=by
 induction l with
 | nil=>simp [valsL]
 | cons x l ih=>simp only [valsL,List.mem_append,ih,List.mem_cons,exists_eq_or_imp]
theorem mem_le {x:T} {l:List T} (h:x∈l):tot x≤totL l∧size x≤sizeL l∧deep x≤deepL l:=by
 induction l with
 | nil=>cases h
 | cons y l ih =>
  simp only [totL,sizeL,deepL]
  rcases List.mem_cons.1 h with rfl | h
  ·omega
  ·have:=ih h;omega
theorem wide_mono {a b:List T} (h:a.length=b.length) (hw:∀ (i:Nat) (x y:T),a[i]?=some x→b[i]?=some y→wide x≤wide y) :
  (∀ n m,n≤m→wideS n a≤wideS m b)∧(∀ n m,n≤m→wideU n a≤wideU m b)∧∀ n m,n≤m→wideI n a≤wideI m b:=by
 induction a generalizing b with
 | nil=>cases b with
  | nil=>exact ⟨fun n m h=>h,fun n m h=>h,fun n m h=>h⟩
  | cons y b=>simp at h
 | cons x a ih=>cases b with
  | nil=>simp at h
  | cons y b =>
   obtain ⟨h1,h2,h3⟩:=ih (b:=b) (by simpa using h) fun i u v hu hv=>hw (i+1) u v (by simpa using hu) (by simpa using hv)
   have h0:=hw 0 x y rfl rfl
   refine ⟨fun n m hnm=>?_,fun n m hnm=>?_,fun n m hnm=>?_⟩
   ·rw [wideS,wideS]
    refine h1 _ _ ?_
    have:=Nat.mul_le_mul hnm h0
    omega
   ·rw [wideU,wideU];exact h2 _ _ (by omega)
   ·rw [wideI,wideI];exact h3 _ _ (by omega)
theorem wideI_ge:∀ (l:List T) (n:Nat),n≤wideI n l∧∀ x∈l,wide x≤wideI n l
 | [],n=>⟨Nat.le_refl _,fun x hx=>by cases hx⟩
 | y::l,n=>by
  obtain ⟨h1,h2⟩:=wideI_ge l (max n (wide y))
  rw [wideI]
  refine ⟨by omega,fun x hx=>?_⟩
  rcases List.mem_cons.1 hx with rfl | hx
  ·omega
  ·exact h2 x hx
theorem wide_mk (k:Int) (p:Pd.T) (f v:Int) (l:List T):wide (.mk k p f v l)=if k=3 then wideS 1 l else if k=4 then wideU 0 l else if k=5 then wideI 0 l else 1:=by rw [wide]
theorem none_vals (g:Int):Pd.values g noneP=[]:=by
 apply List.eq_nil_iff_forall_not_mem.2
 intro w hw
 rw [Pd.values_mem] at hw
 unfold noneP at hw
 rw [Pd.vals_mk] at hw
 simp [Pd.valsL] at hw
theorem spec_facts (sw:Int):∀ (n:Nat) (x:T),tot x≤n→fits x=true→fits (spec sw x)=true∧tot (spec sw x)≤tot x∧size (spec sw x)≤size x∧deep (spec sw x)≤deep x∧wide (spec sw x)≤wide x∧vals 5 (spec sw x)=[]∧∀ g w,w∈vals g (spec sw x)→w∈vals g x
 | 0,x,hn,_=>absurd (tot_pos x) (by omega)
 | n+1,⟨k,p,f,v,l⟩,hn,h=>by
  obtain ⟨hsh,hfl⟩:=fits_iff.1 h
  have ih:∀ y∈l,_:=fun y hy=>spec_facts sw n y (by have:=tot_lt (k:=k) (q:=p) (f:=f) (v:=v) hy;omega) (hfl y hy)
  have hfm:∀ y∈l.map (spec sw),fits y=true:=fun y hy=>by obtain ⟨z,hz,rfl⟩:=List.mem_map.1 hy;exact (ih z hz).1
  have htm:totL (l.map (spec sw))≤totL l∧sizeL (l.map (spec sw))≤sizeL l∧deepL (l.map (spec sw))≤deepL l:=by
   clear hn h hsh hfl hfm
   induction l with
   | nil=>simp [totL,sizeL,deepL]
   | cons y l ihl =>
    obtain ⟨h1,h2,h3⟩:=ihl fun z hz=>ih z (List.mem_cons_of_mem _ hz)
    obtain ⟨_,h4,h5,h6,_⟩:=ih y (by simp)
    simp only [List.map_cons,totL,sizeL,deepL]
    omega
  have hv5:valsL 5 (l.map (spec sw))=[]:=by
   apply List.eq_nil_iff_forall_not_mem.2
   intro w hw
   obtain ⟨x,hx,hv⟩:=mem_valsL.1 hw
   obtain ⟨z,hz,rfl⟩:=List.mem_map.1 hx
   rw [(ih z hz).2.2.2.2.2.1] at hv
   cases hv
  have hvs:∀ g w,w∈valsL g (l.map (spec sw))→w∈valsL g l:=fun g w hw=>by
   obtain ⟨x,hx,hv⟩:=mem_valsL.1 hw
   obtain ⟨z,hz,rfl⟩:=List.mem_map.1 hx
   exact mem_valsL.2 ⟨z,hz,(ih z hz).2.2.2.2.2.2 g w hv⟩
  obtain ⟨w1,w2,w3⟩:=wide_mono (a:=l.map (spec sw)) (b:=l) (by simp) fun i a b ha hb=>by
   rw [List.getElem?_map,hb] at ha
   simp only [Option.map_some,Option.some.injEq] at ha
   rw [← ha]
   exact (ih b (List.mem_of_getElem? hb)).2.2.2.2.1
  have w1:=w1 1 1 (Nat.le_refl _)
  have w2:=w2 0 0 (Nat.le_refl _)
  have w3:=w3 0 0 (Nat.le_refl _)
  rw [spec_mk]
  rcases hsh with ⟨rfl,hr,⟨rfl,rfl⟩,hl⟩ | ⟨rfl,rfl,hf1,hv1,hl⟩ | ⟨hk,rfl,⟨rfl,rfl⟩,hl1,hl2⟩ | ⟨rfl,hr,⟨rfl,rfl⟩,hl⟩
  ·obtain rfl:=List.eq_nil_of_length_eq_zero hl
   have hpf:=right_fits hr
   have hsz:=Pd.cut_size sw p hpf
   rw [if_neg (fun h=>by omega),if_pos (.inl rfl),size_mk,size_mk,tot_mk,tot_mk]
   refine ⟨fits_iff.2 ⟨.inl ⟨rfl,Pd.cut_right ⟨sw,0,0,0,0,0⟩ p hr,⟨rfl,rfl⟩,rfl⟩,fun y hy=>by simp at hy⟩,by simp only [List.map_nil];omega,by simp only [List.map_nil];simp;omega,Nat.le_refl _,Nat.le_refl _,?_,fun g w hw=>?_⟩
   ·rw [vals_mk,if_neg (by omega)]
    simp only [List.map_nil,valsL,List.append_nil,List.nil_append]
    apply List.eq_nil_iff_forall_not_mem.2
    intro w hw
    rw [Pd.values_mem,Pd.cut_vals sw p hpf] at hw
    cases hw
   ·rw [vals_mk,if_neg (by omega)] at hw ⊢
    simp only [List.map_nil,valsL,List.append_nil,List.nil_append,Pd.values_mem] at hw ⊢
    exact Pd.cut_sub sw g w _ p (Nat.le_refl _) hpf hw
  ·obtain rfl:=List.eq_nil_of_length_eq_zero hl
   rw [if_neg (fun h=>by omega),if_neg (fun h=>by omega)]
   refine ⟨h,Nat.le_refl _,Nat.le_refl _,Nat.le_refl _,Nat.le_refl _,?_,fun g w hw=>hw⟩
   rw [vals_mk,if_neg (by omega),none_vals]
   rfl
  ·rw [if_neg (fun h=>by omega),if_neg (fun h=>by omega),size_mk,size_mk,tot_mk,tot_mk,deep_mk,deep_mk,wide_mk,wide_mk]
   refine ⟨fits_iff.2 ⟨.inr (.inr (.inl ⟨hk,rfl,⟨rfl,rfl⟩,by simpa using hl1,by simpa using hl2⟩)),hfm⟩,by omega,by split<;>omega,by omega,by rcases hk with rfl | rfl<;>simp<;>omega,?_,fun g w hw=>?_⟩
   ·rw [vals_mk,if_neg (by omega),none_vals,hv5];rfl
   ·rw [vals_mk,if_neg (by omega),none_vals] at hw ⊢
    exact hvs g w hw
  ·have hpf:=right_fits hr
   have hsz:=Pd.cut_size sw p hpf
   have hk:=Pd.fits_k (Pd.cut_fits sw p hpf)
   match l,hl with
   | [a,b],_ =>
   have e1:=tot_mk 5 p 0 0 [a,b]
   have e2:=size_mk 5 p 0 0 [a,b]
   have e3:=deep_mk 5 p 0 0 [a,b]
   have e4:=wide_mk 5 p 0 0 [a,b]
   rw [if_neg (by decide),if_neg (by decide),if_pos rfl] at e4
   rw [if_neg (by decide)] at e2
   by_cases hc:(5:Int)=5∧(Pd.cut sw p).k≤2
   ·rw [if_pos hc]
    have hsel:∀ y∈[a,b],fits (spec sw y)=true∧tot (spec sw y)≤tot (.mk 5 p 0 0 [a,b])∧size (spec sw y)≤size (.mk 5 p 0 0 [a,b])∧deep (spec sw y)≤deep (.mk 5 p 0 0 [a,b])∧wide (spec sw y)≤wide (.mk 5 p 0 0 [a,b])∧vals 5 (spec sw y)=[]∧∀ g w,w∈vals g (spec sw y)→w∈vals g (.mk 5 p 0 0 [a,b]):=fun y hy=>by
     obtain ⟨g1,g2,g3,g4,g5,g6,g7⟩:=ih y hy
     obtain ⟨m1,m2,m3⟩:=mem_le hy
     have m4:=(wideI_ge [a,b] 0).2 y hy
     refine ⟨g1,by omega,by omega,by omega,by omega,g6,fun g w hw=>?_⟩
     rw [vals_mk,List.mem_append,List.mem_append,mem_valsL]
     exact .inr (.inr ⟨y,hy,g7 g w hw⟩)
    by_cases hq:(Pd.cut sw p).k=1
    ·rw [hq];exact hsel a (by simp)
    ·rw [show (Pd.cut sw p).k=2 by omega];exact hsel b (by simp)
   ·rw [if_neg hc,if_pos (.inr rfl),size_mk,tot_mk,deep_mk,wide_mk,if_neg (by decide),if_neg (by decide),if_pos rfl,if_neg (by decide),e1,e2,e3,e4]
    refine ⟨fits_iff.2 ⟨.inr (.inr (.inr ⟨rfl,Pd.cut_right ⟨sw,0,0,0,0,0⟩ p hr,⟨rfl,rfl⟩,rfl⟩)),hfm⟩,by omega,by omega,by omega,w3,?_,fun g w hw=>?_⟩
    ·rw [vals_mk,if_neg (by omega),hv5,List.append_nil,List.nil_append]
     apply List.eq_nil_iff_forall_not_mem.2
     intro w hw
     rw [Pd.values_mem,Pd.cut_vals sw p hpf] at hw
     cases hw
    ·rw [vals_mk,if_neg (by omega),List.nil_append,List.mem_append] at hw ⊢
     rcases hw with hw | hw
     ·rw [Pd.values_mem] at hw ⊢
      exact .inl (Pd.cut_sub sw g w _ p (Nat.le_refl _) hpf hw)
     ·exact .inr (hvs g w hw)
theorem spec_fits (sw:Int) (x:T) (h:fits x=true):fits (spec sw x)=true:=(spec_facts sw _ x (Nat.le_refl _) h).1
theorem spec_tot (sw:Int) (x:T) (h:fits x=true):tot (spec sw x)≤tot x:=(spec_facts sw _ x (Nat.le_refl _) h).2.1
theorem spec_right (sw:Int) (x:T) (h:right x=true):right (spec sw x)=true:=by
 unfold right at h ⊢
 simp only [Bool.and_eq_true,decide_eq_true_eq] at h ⊢
 obtain ⟨h1,_,h2,h3,h4,_⟩:=spec_facts sw _ x (Nat.le_refl _) h.1
 exact ⟨h1,by omega,by omega,by omega⟩
theorem nodup_len:∀ (a b:List Int),a.Nodup→(∀ x∈a,x∈b)→a.length≤b.length
 | [],_,_,_=>Nat.zero_le _
 | x::a,b,hn,hs=>by
  rw [List.nodup_cons] at hn
  have hx:x∈b:=hs x (by simp)
  have:=nodup_len a (b.erase x) hn.2 fun y hy=>(List.mem_erase_of_ne (fun e=>hn.1 (by rw [← e];exact hy))).2 (hs y (by simp [hy]))
  rw [List.length_erase_of_mem hx] at this
  have:=List.length_pos_of_mem hx
  rw [List.length_cons]
  omega
theorem values_nodup (f:Int) (x:T):(values f x).Nodup:=(values_rising f x).imp fun h=>by omega
theorem spec_vlen (sw f:Int) (x:T) (h:fits x=true):(values f (spec sw x)).length≤(values f x).length:=by
 refine nodup_len _ _ (values_nodup f (spec sw x)) fun w hw=>?_
 rw [values_mem] at hw ⊢
 exact (spec_facts sw _ x (Nat.le_refl _) h).2.2.2.2.2.2 f w hw
end Po
end Go.Proofs.YtmehinfgdcmmjaaGreat
