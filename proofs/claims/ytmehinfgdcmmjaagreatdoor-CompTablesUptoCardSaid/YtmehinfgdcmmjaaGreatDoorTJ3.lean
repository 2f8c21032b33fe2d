/- A part of the proof. -/
import Derived.Test.YtmehinfgdcmmjaaGreatDoorTJ1
import Derived.Test.YtmehinfgdcmmjaaGreatDoorTSxC
import Derived.Shelf.Strings.Builder1
import Derived.Shelf.Strings.Builder2
import Derived.Shelf.Strings.OnBuilder
import Derived.Shelf.Small.Bits
import Derived.Shelf.Small.Strs
import Derived.Shelf.Small.Wraps
import Derived.Shelf.Strings.BuilderF
import Derived.Shelf.Strconv.Itoa0
import Derived.Shelf.Strconv.Itoa1
import Derived.Shelf.LaysM
import Derived.Shelf.Strconv.Itoa2
import Derived.Shelf.Strconv.Itoa3
import Derived.Shelf.Strings.Search1
import Derived.Shelf.Strings.Prefix
import Derived.Shelf.Slices.Turned
import Derived.Ground.Names2Prog
import Derived.Shelf.Slices.CompactI
import Derived.Shelf.Slices.SearchI
import Derived.Shelf.Slices.Cells
import Derived.Ground.SlgnProg
import Derived.Shelf.SlicesE.Compact
import Derived.Ground.SlgmProg
import Derived.Shelf.SortM.Plain
import Derived.Shelf.SortM.SortNone
import Derived.Test.YtmehinfgdcmmjaaGreatDoorProg
import Derived.Test.YtmehinfgdcmmjaaGreatDoorTJ2
import Derived.Test.YtmehinfgdcmmjaaGreatDoorTJ7
import Derived.Test.YtmehinfgdcmmjaaGreatDoorTSxD
import Derived.Sort.Grow
import Derived.Sort.OwnSortedInts
import Derived.Lib.SlicesCompact
import Derived.Shelf.SlSortCmp.WholeK
import Derived.Shelf.SlSortCmp.NoneTotal
import Derived.Defers
import Derived.Recover
namespace Go.Proofs.YtmehinfgdcmmjaaGreatDoor
open Go.Sx
set_option maxRecDepth 20000
set_option linter.unusedVariables false
namespace Pd
mutual
def vals (f:Int):T→List Int
 | .mk k a v l=>(if k=3∧a=f then [v] else [])++valsL f l
def valsL (f:Int):List T→List Int
 | []=>[]
 | p::l=>vals f p++valsL f l
end
theorem valsL_append (f:Int) (a b:List T):valsL f (a++b)=valsL f a++valsL f b:=by
 induction a with
 | nil=>rfl
 | cons p a ih=>rw [List.cons_append,valsL,valsL,ih,List.append_assoc]
theorem valsL_take (f:Int) {l:List T} {k:Nat} (h:k<l.length):valsL f (l.take (k+1))=valsL f (l.take k)++vals f l[k]:=by
 rw [List.take_add_one,List.getElem?_eq_getElem h,valsL_append]
 congr 1
 show vals f l[k]++[]=_
 simp
mutual
theorem vals_len (f:Int):∀ p:T,(vals f p).length≤size p
 | .mk k a v l=>by
  have:=valsL_len f l
  rw [vals,size,List.length_append]
  split
  ·simp;omega
  ·simp;omega
theorem valsL_len (f:Int):∀ l:List T,(valsL f l).length≤sizeL l
 | []=>by simp [valsL]
 | p::l=>by have:=vals_len f p;have:=valsL_len f l;rw [valsL,sizeL,List.length_append];omega
end
mutual
theorem vals_top (f:Int):∀ p:T,fits p=true→∀ v∈vals f p,0≤v∧v≤top f
 | .mk k a w l,h,v,hv=>by
  rw [fits,Bool.and_eq_true] at h
  rw [vals,List.mem_append] at hv
  rcases hv with hv | hv
  ·split at hv
   ·rename_i hk
    obtain ⟨rfl,rfl⟩:=hk
    have h1:=h.1
    unfold shape at h1
    rw [decide_eq_true_eq] at h1
    rw [List.mem_singleton.1 hv]
    omega
   ·simp at hv
  ·exact valsL_top f l h.2 v hv
theorem valsL_top (f:Int):∀ l:List T,fitsL l=true→∀ v∈valsL f l,0≤v∧v≤top f
 | [],_,v,hv=>by simp [valsL] at hv
 | p::l,h,v,hv=>by
  rw [fitsL,Bool.and_eq_true] at h
  rw [valsL,List.mem_append] at hv
  rcases hv with hv | hv
  ·exact vals_top f p h.1 v hv
  ·exact valsL_top f l h.2 v hv
end
def once:List Int→List Int
 | []=>[]
 | [x]=>[x]
 | x::y::l=>if x=y then once (y::l) else x::once (y::l)
theorem once_mem:∀ (l:List Int) (v:Int),v∈once l↔v∈l
 | [],v=>by simp [once]
 | [x],v=>by simp [once]
 | x::y::l,v=>by
  rw [once]
  split
  ·rename_i h
   subst h
   rw [once_mem (x::l) v]
   simp
  ·rw [List.mem_cons,once_mem (y::l) v,List.mem_cons (b:=x)]
theorem once_rising:∀ l:List Int,l.Pairwise (·≤·)→(once l).Pairwise (·<·)
 | [],_=>by simp [once]
 | [x],_=>by simp [once]
 | x::y::l,h=>by
  rw [once]
  have h2:=List.pairwise_cons.1 h
  split
  ·exact once_rising (y::l) h2.2
  ·rename_i hne
   refine List.pairwise_cons.2 ⟨fun v hv=>?_,once_rising (y::l) h2.2⟩
   have hm:=(once_mem (y::l) v).1 hv
   have h3:=List.pairwise_cons.1 h2.2
   have h4:=h2.1 y (by simp)
   rcases List.mem_cons.1 hm with rfl | hm
   ·omega
   ·have:=h3.1 v hm;omega
theorem rising_eq:∀ a b:List Int,a.Pairwise (·<·)→b.Pairwise (·<·)→(∀ v,v∈a↔v∈b)→a=b
 | [],[],_,_,_=>rfl
 | [],y::b,_,_,h=>by have:=(h y).2 (by simp);simp at this
 | x::a,[],_,_,h=>by have:=(h x).1 (by simp);simp at this
 | x::a,y::b,ha,hb,h=>by
  have ha':=List.pairwise_cons.1 ha
  have hb':=List.pairwise_cons.1 hb
  have e:x=y:=by
   have h1:=(h x).1 (by simp)
   have h2:=(h y).2 (by simp)
   rcases List.mem_cons.1 h1 with h1 | h1
   ·exact h1
   ·rcases List.mem_cons.1 h2 with h2 | h2
    ·exact h2.symm
    ·have:=ha'.1 y h2;have:=hb'.1 x h1;omega
  subst e
  rw [rising_eq a b ha'.2 hb'.2 fun v=>⟨fun hv=>?_,fun hv=>?_⟩]
  ·have h1:=(h v).1 (List.mem_cons_of_mem _ hv)
   rcases List.mem_cons.1 h1 with h1 | h1
   ·have:=ha'.1 v hv;omega
   ·exact h1
  ·have h1:=(h v).2 (List.mem_cons_of_mem _ hv)
   rcases List.mem_cons.1 h1 with h1 | h1
   ·have:=hb'.1 v hv;omega
   ·exact h1
def values (f:Int) (p:T):List Int:=once ((vals f p).mergeSort fun x y=>decide (x≤y))
theorem values_mem (f:Int) (p:T) (v:Int):v∈values f p↔v∈vals f p:=by
 unfold values
 rw [once_mem]
 exact List.mem_mergeSort
theorem top_nonneg (f:Int):0≤top f:=by unfold top;split<;>first | omega | (split<;>first | omega | (split<;>omega))
end Pd
open Go.Sx
set_option maxRecDepth 20000
set_option linter.unusedVariables false
namespace Pd
def fold (k f v out d:Int) (l:List T):T :=
 if l.any (fun x=>decide (x.k=d)) then .mk d 0 0 []
 else match l.filter (fun x=>!decide (x.k=out)) with
  | []=>.mk out 0 0 []
  | [x]=>x
  | x::y::r=>.mk k f v (x::y::r)
mutual
def cut (sw:Int):T→T
 | .mk k f v l=>if k=3∧f=5 then .mk (if v=sw then 1 else 2) 0 0 [] else if k=5 then fold 5 f v 1 2 (cutL sw l) else if k=6 then fold 6 f v 2 1 (cutL sw l)
  else if k=4∧(cut1 sw l).k≤2 then .mk (if (cut1 sw l).k=2 then 1 else 2) 0 0 [] else .mk k f v (cutL sw l)
def cut1 (sw:Int):List T→T
 | []=>.mk 3 0 0 []
 | p::_=>cut sw p
def cutL (sw:Int):List T→List T
 | []=>[]
 | p::l=>cut sw p::cutL sw l
end
theorem cutL_map (sw:Int) (l:List T):cutL sw l=l.map (cut sw):=by
 induction l with
 | nil=>rfl
 | cons p l ih=>rw [cutL,ih];rfl
theorem cut_sw (sw v:Int) (l:List T):cut sw (.mk 3 5 v l) = .mk (if v=sw then 1 else 2) 0 0 []:=by rw [cut.eq_def];simp
theorem cut_5 (sw f v:Int) (l:List T):cut sw (.mk 5 f v l)=fold 5 f v 1 2 (l.map (cut sw)):=by rw [cut.eq_def];simp [cutL_map]
theorem cut_6 (sw f v:Int) (l:List T):cut sw (.mk 6 f v l)=fold 6 f v 2 1 (l.map (cut sw)):=by rw [cut.eq_def];simp [cutL_map]
theorem cut_4 (sw f v:Int) (q:T):cut sw (.mk 4 f v [q])=if (cut sw q).k≤2 then .mk (if (cut sw q).k=2 then 1 else 2) 0 0 [] else .mk 4 f v [cut sw q]:=by
 rw [cut.eq_def];simp [cutL_map,cut1];rfl
theorem cut_no (sw k f v:Int) (h:¬ (k=3∧f=5)) (h4:¬ (k=4∨k=5∨k=6)):cut sw (.mk k f v []) = .mk k f v []:=by
 rw [cut.eq_def];simp only [not_or] at h4;simp [h,h4,cutL_map]
theorem fits_12 {x:T} (h:fits x=true) (hk:x.k=1∨x.k=2):x = .mk x.k 0 0 []:=by
 obtain ⟨k,f,v,l⟩:=x
 rw [fits,Bool.and_eq_true] at h
 have h1:=h.1
 unfold shape at h1
 rw [decide_eq_true_eq] at h1
 simp only [T.k] at hk ⊢
 have:f=0∧v=0∧l.length=0:=by omega
 obtain ⟨rfl,rfl,hl⟩:=this
 rw [List.eq_nil_of_length_eq_zero hl]
theorem fits_0 {d:Int} (hd:d=1∨d=2):fits (.mk d 0 0 [])=true:=by
 rcases hd with rfl | rfl<;>decide
theorem fits_k {x:T} (h:fits x=true):1≤x.k∧x.k≤6:=by
 obtain ⟨k,f,v,l⟩:=x
 rw [fits,Bool.and_eq_true] at h
 have h1:=h.1
 unfold shape at h1
 rw [decide_eq_true_eq] at h1
 simp only [T.k]
 omega
theorem fits_mk' {k f v:Int} {l:List T}:fits (.mk k f v l)=true↔(k=3∧(0≤f∧f≤5)∧(0≤v∧v≤top f)∧l.length=0∨(k=1∨k=2)∧f=0∧v=0∧l.length=0∨k=4∧f=0∧v=0∧l.length=1∨(k=5∨k=6)∧f=0∧v=0∧2≤l.length∧l.length≤8)∧∀ x∈l,fits x=true:=by
 rw [fits,Bool.and_eq_true,fitsL_iff]
 unfold shape
 rw [decide_eq_true_eq]
theorem size_mk' (k f v:Int) (l:List T):size (.mk k f v l)=1+sizeL l:=by rw [size]
theorem deep_mk' (k f v:Int) (l:List T):deep (.mk k f v l)=1+deepL l:=by rw [deep]
theorem sizeL_filter (q:T→Bool) (l:List T):sizeL (l.filter q)≤sizeL l:=by
 induction l with
 | nil=>simp [sizeL]
 | cons x l ih=>rw [List.filter_cons];split<;>simp only [sizeL]<;>omega
theorem deepL_filter (q:T→Bool) (l:List T):deepL (l.filter q)≤deepL l:=by
 induction l with
 | nil=>simp [deepL]
 | cons x l ih=>rw [List.filter_cons];split<;>simp only [deepL]<;>omega
theorem fold_fits {k out d:Int} {l:List T} (hk:k=5∨k=6) (hd:d=1∨d=2) (ho:out=1∨out=2) (hl:l.length≤8) (h:∀ x∈l,fits x=true):fits (fold k 0 0 out d l)=true:=by
 unfold fold
 split
 ·exact fits_0 hd
 ·have hf:∀ x∈l.filter (fun x=>!decide (x.k=out)),fits x=true:=fun x hx=>h x (List.mem_filter.1 hx).1
  have hlen:=List.length_filter_le (fun x=>!decide (x.k=out)) l
  split
  ·exact fits_0 ho
  ·rename_i x e;rw [e] at hf;exact hf x (by simp)
  ·rename_i x y r e
   rw [e] at hf hlen
   simp only [List.length_cons] at hlen
   exact fits_mk'.2 ⟨.inr (.inr (.inr ⟨hk,rfl,rfl,by simp,by simp only [List.length_cons];omega⟩)),hf⟩
theorem fold_size {k f v out d:Int} {l:List T}:size (fold k f v out d l)≤1+sizeL l:=by
 unfold fold
 split
 ·rw [size_mk'];simp [sizeL]
 ·have hs:=sizeL_filter (fun x=>!decide (x.k=out)) l
  split
  ·rw [size_mk'];simp [sizeL]
  ·rename_i x e;rw [e] at hs;simp only [sizeL] at hs;omega
  ·rename_i x y r e;rw [e] at hs;rw [size_mk'];omega
theorem fold_deep {k f v out d:Int} {l:List T}:deep (fold k f v out d l)≤1+deepL l:=by
 unfold fold
 split
 ·rw [deep_mk'];simp [deepL]
 ·have hs:=deepL_filter (fun x=>!decide (x.k=out)) l
  split
  ·rw [deep_mk'];simp [deepL]
  ·rename_i x e;rw [e] at hs;simp only [deepL] at hs;omega
  ·rename_i x y r e;rw [e] at hs;rw [deep_mk'];omega
theorem vals_mk (g k a v:Int) (l:List T):vals g (.mk k a v l)=(if k=3∧a=g then [v] else [])++valsL g l:=by rw [vals]
theorem valsL_nil {g:Int} {l:List T}:valsL g l=[]↔∀ x∈l,vals g x=[]:=by
 induction l with
 | nil=>simp [valsL]
 | cons x l ih=>simp only [valsL,List.append_eq_nil_iff,ih,List.mem_cons,forall_eq_or_imp]
theorem fold_vals {g k f v out d:Int} {l:List T} (hk:k=5∨k=6) (hd:d=1∨d=2) (ho:out=1∨out=2) (h:∀ x∈l,vals g x=[]):vals g (fold k f v out d l)=[]:=by
 unfold fold
 split
 ·rw [vals_mk,if_neg (by omega)];simp [valsL]
 ·have hf:∀ x∈l.filter (fun x=>!decide (x.k=out)),vals g x=[]:=fun x hx=>h x (List.mem_filter.1 hx).1
  split
  ·rw [vals_mk,if_neg (by omega)];simp [valsL]
  ·rename_i x e;rw [e] at hf;exact hf x (by simp)
  ·rename_i x y r e
   rw [e] at hf
   rw [vals_mk,if_neg (by omega),valsL_nil.2 hf]
   rfl
theorem hits_mk1 (x:At) (f v:Int) (l:List T):hits x (.mk 1 f v l)=true:=by rw [hits.eq_def];simp
theorem hits_mk2 (x:At) (f v:Int) (l:List T):hits x (.mk 2 f v l)=false:=by rw [hits.eq_def];simp
theorem hits_mk5 (x:At) (f v:Int) (l:List T):hits x (.mk 5 f v l)=hitsAll x l:=by rw [hits.eq_def];simp
theorem hits_mk6 (x:At) (f v:Int) (l:List T):hits x (.mk 6 f v l)=!hitsNone x l:=by rw [hits.eq_def];simp
theorem hits_mk4 (x:At) (f v:Int) (q:T) (l:List T):hits x (.mk 4 f v (q::l))=!hits x q:=by rw [hits.eq_def];simp [hits1]
theorem hitsAll_filter (x:At) (q:T→Bool) (l:List T) (h:∀ y∈l,q y=false→hits x y=true):hitsAll x (l.filter q)=hitsAll x l:=by
 induction l with
 | nil=>rfl
 | cons y l ih =>
  have ih:=ih fun z hz=>h z (List.mem_cons_of_mem _ hz)
  rw [List.filter_cons]
  split
  ·rw [hitsAll,hitsAll,ih]
  ·rename_i hq
   rw [hitsAll,ih,h y (by simp) (by simpa using hq),Bool.true_and]
theorem hitsNone_filter (x:At) (q:T→Bool) (l:List T) (h:∀ y∈l,q y=false→hits x y=false):hitsNone x (l.filter q)=hitsNone x l:=by
 induction l with
 | nil=>rfl
 | cons y l ih =>
  have ih:=ih fun z hz=>h z (List.mem_cons_of_mem _ hz)
  rw [List.filter_cons]
  split
  ·rw [hitsNone,hitsNone,ih]
  ·rename_i hq
   rw [hitsNone,ih,h y (by simp) (by simpa using hq),Bool.not_false,Bool.true_and]
theorem hits_12 (x:At) {y:T} (h:y.k=1∨y.k=2):hits x y=decide (y.k=1):=by
 obtain ⟨k,f,v,l⟩:=y
 simp only [T.k] at h ⊢
 rcases h with rfl | rfl
 ·rw [hits_mk1];rfl
 ·rw [hits_mk2];rfl
theorem any_k {l:List T} {d:Int} (h:(l.any fun x=>decide (x.k=d))=true):∃ y∈l,y.k=d:=by
 obtain ⟨y,hy,e⟩:=List.any_eq_true.1 h
 exact ⟨y,hy,of_decide_eq_true e⟩
theorem fold_hits5 (x:At) {f v:Int} {l:List T}:hits x (fold 5 f v 1 2 l)=hitsAll x l:=by
 unfold fold
 split
 ·rename_i h
  obtain ⟨y,hy,e⟩:=any_k h
  rw [hits_mk2]
  cases hh:hitsAll x l with
  | false=>rfl
  | true =>
   have:=(hitsAll_iff x l).1 hh y hy
   rw [hits_12 x (.inr e),e] at this
   exact absurd this (by decide)
 ·have hf:=hitsAll_filter x (fun y=>!decide (y.k=1)) l fun y _ h=>by
   have:y.k=1:=by simpa using h
   rw [hits_12 x (.inl this),this];rfl
  rw [← hf]
  split
  ·rename_i e;rw [e,hits_mk1];rfl
  ·rename_i y e;rw [e];simp [hitsAll]
  ·rename_i y z r e;rw [e,hits_mk5]
theorem fold_hits6 (x:At) {f v:Int} {l:List T}:hits x (fold 6 f v 2 1 l)=!hitsNone x l:=by
 unfold fold
 split
 ·rename_i h
  obtain ⟨y,hy,e⟩:=any_k h
  rw [hits_mk1]
  cases hh:hitsNone x l with
  | false=>rfl
  | true =>
   have:=(hitsNone_iff x l).1 hh y hy
   rw [hits_12 x (.inl e),e] at this
   exact absurd this (by decide)
 ·have hf:=hitsNone_filter x (fun y=>!decide (y.k=2)) l fun y _ h=>by
   have:y.k=2:=by simpa using h
   rw [hits_12 x (.inr this),this];rfl
  rw [← hf]
  split
  ·rename_i e;rw [e,hits_mk2];rfl
  ·rename_i y e;rw [e];simp [hitsNone]
  ·rename_i y z r e;rw [e,hits_mk6]
theorem cut_facts (x:At):∀ (n:Nat) (p:T),size p≤n→fits p=true→fits (cut x.sw p)=true∧size (cut x.sw p)≤size p∧deep (cut x.sw p)≤deep p∧vals 5 (cut x.sw p)=[]∧hits x (cut x.sw p)=hits x p
 | 0,p,hn,_=>absurd (size_pos p) (by omega)
 | n+1,⟨k,f,v,l⟩,hn,h=>by
  have ih:∀ y∈l,fits (cut x.sw y)=true∧size (cut x.sw y)≤size y∧deep (cut x.sw y)≤deep y∧vals 5 (cut x.sw y)=[]∧hits x (cut x.sw y)=hits x y:=fun y hy =>
   cut_facts x n y (by have:=size_lt (k:=k) (f:=f) (v:=v) hy;omega) ((fits_mk'.1 h).2 y hy)
  have hsz:sizeL (l.map (cut x.sw))≤sizeL l:=by
   clear hn h
   induction l with
   | nil=>simp [sizeL]
   | cons y l ihl=>have h1:=(ih y (by simp)).2.1;have h2:=ihl fun z hz=>ih z (List.mem_cons_of_mem _ hz);simp only [List.map_cons,sizeL];omega
  have hdp:deepL (l.map (cut x.sw))≤deepL l:=by
   clear hn h hsz
   induction l with
   | nil=>simp [deepL]
   | cons y l ihl=>have h1:=(ih y (by simp)).2.2.1;have h2:=ihl fun z hz=>ih z (List.mem_cons_of_mem _ hz);simp only [List.map_cons,deepL];omega
  have hall:hitsAll x (l.map (cut x.sw))=hitsAll x l:=by
   clear hn h hsz hdp
   induction l with
   | nil=>rfl
   | cons y l ihl=>rw [List.map_cons,hitsAll,hitsAll,(ih y (by simp)).2.2.2.2,ihl fun z hz=>ih z (List.mem_cons_of_mem _ hz)]
  have hnone:hitsNone x (l.map (cut x.sw))=hitsNone x l:=by
   clear hn h hsz hdp hall
   induction l with
   | nil=>rfl
   | cons y l ihl=>rw [List.map_cons,hitsNone,hitsNone,(ih y (by simp)).2.2.2.2,ihl fun z hz=>ih z (List.mem_cons_of_mem _ hz)]
  have hfm:∀ y∈l.map (cut x.sw),fits y=true:=fun y hy=>by obtain ⟨z,hz,rfl⟩:=List.mem_map.1 hy;exact (ih z hz).1
  have hvm:∀ y∈l.map (cut x.sw),vals 5 y=[]:=fun y hy=>by obtain ⟨z,hz,rfl⟩:=List.mem_map.1 hy;exact (ih z hz).2.2.2.1
  have hsh:=(fits_mk'.1 h).1
  have hs:=size_mk' k f v l
  have hd:=deep_mk' k f v l
  by_cases h35:k=3∧f=5
  ·obtain ⟨rfl,rfl⟩:=h35
   rw [cut_sw]
   have hl0:l=[]:=List.eq_nil_of_length_eq_zero (by omega)
   subst hl0
   have e:hits x (.mk 3 5 v [])=decide (x.sw=v):=by rw [hits.eq_def];simp [get]
   rw [e]
   by_cases hv:v=x.sw
   ·rw [if_pos hv]
    refine ⟨fits_0 (.inl rfl),by simp [size,sizeL],by simp [deep,deepL],by simp [vals,valsL],?_⟩
    rw [hits_mk1,decide_eq_true hv.symm]
   ·rw [if_neg hv]
    refine ⟨fits_0 (.inr rfl),by simp [size,sizeL],by simp [deep,deepL],by simp [vals,valsL],?_⟩
    rw [hits_mk2,decide_eq_false (fun e=>hv e.symm)]
  by_cases h5:k=5
  ·subst h5
   obtain ⟨rfl,rfl,hl2,hl8⟩:f=0∧v=0∧2≤l.length∧l.length≤8:=by omega
   rw [cut_5]
   have h1:=fold_size (k:=5) (f:=0) (v:=0) (out:=1) (d:=2) (l:=l.map (cut x.sw))
   have h2:=fold_deep (k:=5) (f:=0) (v:=0) (out:=1) (d:=2) (l:=l.map (cut x.sw))
   exact ⟨fold_fits (.inl rfl) (.inr rfl) (.inl rfl) (by simpa using hl8) hfm,by omega,by omega,fold_vals (.inl rfl) (.inr rfl) (.inl rfl) hvm,by rw [fold_hits5,hits_mk5,hall]⟩
  by_cases h6:k=6
  ·subst h6
   obtain ⟨rfl,rfl,hl2,hl8⟩:f=0∧v=0∧2≤l.length∧l.length≤8:=by omega
   rw [cut_6]
   have h1:=fold_size (k:=6) (f:=0) (v:=0) (out:=2) (d:=1) (l:=l.map (cut x.sw))
   have h2:=fold_deep (k:=6) (f:=0) (v:=0) (out:=2) (d:=1) (l:=l.map (cut x.sw))
   exact ⟨fold_fits (.inr rfl) (.inl rfl) (.inr rfl) (by simpa using hl8) hfm,by omega,by omega,fold_vals (.inr rfl) (.inl rfl) (.inr rfl) hvm,by rw [fold_hits6,hits_mk6,hnone]⟩
  by_cases h4:k=4
  ·subst h4
   obtain ⟨rfl,rfl,hl1⟩:f=0∧v=0∧l.length=1:=by omega
   match l,hl1 with
   | [q],_ =>
    obtain ⟨f1,f2,f3,f4,f5⟩:=ih q (by simp)
    rw [cut_4]
    have e:hits x (.mk 4 0 0 [q])=!hits x q:=hits_mk4 ..
    have e2:size (.mk 4 0 0 [q])=1+(size q+0):=by simp [size,sizeL]
    have e3:deep (.mk 4 0 0 [q])=1+max (deep q) 0:=by simp [deep,deepL]
    rw [e,e2,e3]
    generalize cut x.sw q=c at *
    by_cases hc:c.k≤2
    ·rw [if_pos hc]
     have hk:=fits_k f1
     have hh:=hits_12 x (y:=c) (by omega)
     by_cases hc2:c.k=2
     ·rw [if_pos hc2]
      refine ⟨fits_0 (.inl rfl),by simp [size,sizeL],by simp [deep,deepL],by simp [vals,valsL],?_⟩
      rw [hits_mk1,← f5,hh,hc2];rfl
     ·rw [if_neg hc2]
      refine ⟨fits_0 (.inr rfl),by simp [size,sizeL],by simp [deep,deepL],by simp [vals,valsL],?_⟩
      rw [hits_mk2,← f5,hh,show c.k=1 by omega];rfl
    ·rw [if_neg hc]
     refine ⟨fits_mk'.2 ⟨by simp,fun y hy=>by rw [List.mem_singleton.1 hy];exact f1⟩,by simp only [size,sizeL];omega,by simp only [deep,deepL];omega,by simp [vals,valsL,f4],?_⟩
     rw [hits_mk4,f5]
  ·have hl0:l=[]:=List.eq_nil_of_length_eq_zero (by omega)
   subst hl0
   rw [cut_no _ _ _ _ h35 (by omega)]
   refine ⟨h,Nat.le_refl _,Nat.le_refl _,?_,rfl⟩
   rw [vals_mk,if_neg h35];rfl
theorem cut_right (x:At) (p:T) (h:right p=true):right (cut x.sw p)=true:=by
 unfold right at h ⊢
 simp only [Bool.and_eq_true,decide_eq_true_eq] at h ⊢
 obtain ⟨h1,h2,h3,_⟩:=cut_facts x _ p (Nat.le_refl _) h.1
 exact ⟨h1,by omega,by omega⟩
theorem cut_fits (sw:Int) (p:T) (h:fits p=true):fits (cut sw p)=true:=(cut_facts ⟨sw,0,0,0,0,0⟩ _ p (Nat.le_refl _) h).1
theorem cut_vals (sw:Int) (p:T) (h:fits p=true):vals 5 (cut sw p)=[]:=(cut_facts ⟨sw,0,0,0,0,0⟩ _ p (Nat.le_refl _) h).2.2.2.1
end Pd
open Go.Sx
set_option linter.unusedVariables false
namespace Mt
def top (f:Int):Int:=if f=2 then 15 else if f=0∨f=1∨f=3 then 255 else 0
def bit (n:Int) (i:Nat):Int:=n / 2 ^ i % 2
structure M where
 p:Int
 v0:Int
 v1:Int
 v2:Int
 v3:Int
 m0:Int
 m1:Int
 m2:Int
 m3:Int
def M.v (x:M) (f:Nat):Int:=match f with | 0=>x.v0 | 1=>x.v1 | 2=>x.v2 | _=>x.v3
def M.m (x:M) (f:Nat):Int:=match f with | 0=>x.m0 | 1=>x.m1 | 2=>x.m2 | _=>x.m3
def M.av (x:M):List AV:=[.int .i64 x.p,.int .i64 x.v0,.int .i64 x.v1,.int .i64 x.v2,.int .i64 x.v3,.int .i64 x.m0,.int .i64 x.m1,.int .i64 x.m2,.int .i64 x.m3]
def i64 (n:Int):Prop:=-9223372036854775808≤n∧n≤9223372036854775807
def M.in64 (x:M):Prop:=i64 x.p∧∀ f,f<4→i64 (x.v f)∧i64 (x.m f)
def FOk (t v m:Int):Prop:=0≤m∧m≤t∧0≤v∧v≤t∧∀ i,i<8→bit v i≤bit m i
instance (t v m:Int):Decidable (FOk t v m):=by unfold FOk;infer_instance
def M.ok (x:M):Prop:=(-1≤x.p∧x.p≤7)∧∀ f:Nat,f<4→FOk (top f) (x.v f) (x.m f)
instance (x:M):Decidable x.ok:=by unfold M.ok;infer_instance
theorem top_lt (f:Int):0≤top f∧top f≤255:=by
 unfold top
 split
 ·decide
 ·split<;>decide
theorem zero_iff (x:Nat):x=0↔∀ i,x.testBit i=false:=by
 constructor
 ·rintro rfl i;simp
 ·intro h
  refine Nat.eq_of_testBit_eq fun i=>?_
  rw [h i];simp
theorem bit_nat (a i:Nat):bit (a:Int) i=if a.testBit i then 1 else 0:=by
 unfold bit
 rw [Nat.testBit_eq_decide_div_mod_eq]
 have h:((a:Int) / 2 ^ i % 2)=((a / 2 ^ i % 2:Nat):Int):=by simp
 rw [h]
 have h2:a / 2 ^ i % 2<2:=Nat.mod_lt _ (by decide)
 by_cases h1:a / 2 ^ i % 2=1
 ·simp [h1]
 ·have:a / 2 ^ i % 2=0:=by omega
  simp [this]
theorem bit_le (a b i:Nat):bit (a:Int) i≤bit (b:Int) i↔(a.testBit i=true→b.testBit i=true):=by
 rw [bit_nat,bit_nat]
 cases a.testBit i<;>cases b.testBit i<;>simp
theorem lt_of_bits {a n:Nat} (h:∀ i,n≤i→a.testBit i=false):a<2 ^ n:=Nat.lt_pow_two_of_testBit a fun i hi=>h i hi
theorem bit_hi {a n i:Nat} (h:a<2 ^ n) (hi:n≤i):a.testBit i=false:=Nat.testBit_lt_two_pow (Nat.lt_of_lt_of_le h (Nat.pow_le_pow_right (by decide) hi))
theorem sub_iff {a b:Nat} (hb:b<256):(a<256∧∀ i,i<8→(a.testBit i=true→b.testBit i=true))↔∀ i,a.testBit i=true→b.testBit i=true:=by
 constructor
 ·rintro ⟨h1,h2⟩ i hi
  rcases Nat.lt_or_ge i 8 with h | h
  ·exact h2 i h hi
  ·rw [bit_hi (n:=8) h1 h] at hi;cases hi
 ·intro h
  refine ⟨lt_of_bits (n:=8) fun i hi=>?_,fun i _=>h i⟩
  cases hx:a.testBit i with
  | false=>rfl
  | true =>
   have:=h i hx
   rw [bit_hi (n:=8) hb hi] at this
   cases this
theorem le_of_sub {a b:Nat} (h:∀ i,a.testBit i=true→b.testBit i=true):a≤b:=by
 have:a &&& b=a:=by
  refine Nat.eq_of_testBit_eq fun i=>?_
  rw [Nat.testBit_and]
  cases hx:a.testBit i with
  | false=>rfl
  | true=>rw [h i hx];rfl
 rw [← this]
 exact Nat.and_le_right
theorem wrap_zero (n:Nat) (h:n<18446744073709551616):IntKind.i64.wrap (n:Int)=0↔n=0:=by
 rw [IntKind.wrap_i64];omega
theorem andNot_zero (a b:Nat) (ha:a<9223372036854775808):bitv .andNot .i64 (a:Int) (b:Int)=0↔∀ i,a.testBit i=true→i<64→(BitVec.ofNat 64 b).getLsbD i=true:=by
 have e1:BitVec.ofInt IntKind.i64.bits (a:Int)=BitVec.ofNat 64 a:=BitVec.ofInt_natCast ..
 have e2:BitVec.ofInt IntKind.i64.bits (b:Int)=BitVec.ofNat 64 b:=BitVec.ofInt_natCast ..
 have e:bitv .andNot .i64 (a:Int) (b:Int)=IntKind.i64.wrap (((BitVec.ofNat 64 a &&& ~~~BitVec.ofNat 64 b:BitVec 64).toNat:Nat):Int):=by
  unfold bitv
  rw [e1,e2]
  rfl
 rw [e,wrap_zero _ (BitVec.isLt _),zero_iff]
 constructor
 ·intro h i hi h64
  have:=h i
  rw [BitVec.testBit_toNat] at this
  have ha':(BitVec.ofNat 64 a).getLsbD i=true:=by rw [BitVec.getLsbD_ofNat];simp [h64,hi]
  rw [BitVec.getLsbD_and,BitVec.getLsbD_not,ha'] at this
  simpa [h64] using this
 ·intro h i
  rw [BitVec.testBit_toNat]
  rcases Nat.lt_or_ge i 64 with h64 | h64
  ·rw [BitVec.getLsbD_and,BitVec.getLsbD_not,BitVec.getLsbD_ofNat]
   cases hx:a.testBit i with
   | false=>simp
   | true=>simp [h i hx h64,h64]
  ·exact BitVec.getLsbD_of_ge _ _ h64
theorem andNot_iff (a b:Nat) (ha:a<9223372036854775808) (hb:b<256):bitv .andNot .i64 (a:Int) (b:Int)=0↔∀ i,a.testBit i=true→b.testBit i=true:=by
 rw [andNot_zero a b ha]
 constructor
 ·intro h i hi
  rcases Nat.lt_or_ge i 64 with h64 | h64
  ·have:=h i hi h64
   rw [BitVec.getLsbD_ofNat] at this
   simpa [h64] using this
  ·rw [bit_hi (n:=63) ha (by omega)] at hi;cases hi
 ·intro h i hi h64
  rw [BitVec.getLsbD_ofNat]
  simp [h64,h i hi]
theorem fok_iff (t v m:Int) (ht:0≤t∧t≤255) (hv:v≤9223372036854775807):FOk t v m↔0≤m∧m≤t∧0≤v∧bitv .andNot .i64 v m=0:=by
 constructor
 ·rintro ⟨h1,h2,h3,h4,h5⟩
  obtain ⟨a,rfl⟩:=Int.eq_ofNat_of_zero_le h3
  obtain ⟨b,rfl⟩:=Int.eq_ofNat_of_zero_le h1
  refine ⟨h1,h2,h3,(andNot_iff a b (by omega) (by omega)).2 ((sub_iff (by omega)).1 ⟨by omega,fun i hi=>(bit_le a b i).1 (h5 i hi)⟩)⟩
 ·rintro ⟨h1,h2,h3,h4⟩
  obtain ⟨a,rfl⟩:=Int.eq_ofNat_of_zero_le h3
  obtain ⟨b,rfl⟩:=Int.eq_ofNat_of_zero_le h1
  have h5:=(andNot_iff a b (by omega) (by omega)).1 h4
  have h6:=le_of_sub h5
  exact ⟨h1,h2,h3,by omega,fun i _=>(bit_le a b i).2 (h5 i)⟩
structure N where
 p:Int
 v0:Nat
 v1:Nat
 v2:Nat
 v3:Nat
 m0:Nat
 m1:Nat
 m2:Nat
 m3:Nat
def N.v (x:N) (f:Nat):Nat:=match f with | 0=>x.v0 | 1=>x.v1 | 2=>x.v2 | _=>x.v3
def N.m (x:N) (f:Nat):Nat:=match f with | 0=>x.m0 | 1=>x.m1 | 2=>x.m2 | _=>x.m3
def N.toM (x:N):M:=⟨x.p,x.v0,x.v1,x.v2,x.v3,x.m0,x.m1,x.m2,x.m3⟩
theorem N.toM_v (x:N) (f:Nat):x.toM.v f=(x.v f:Int):=by unfold M.v N.v N.toM;split<;>rfl
theorem N.toM_m (x:N) (f:Nat):x.toM.m f=(x.m f:Int):=by unfold M.m N.m N.toM;split<;>rfl
def Sub (a b:Nat):Prop:=∀ i,a.testBit i=true→b.testBit i=true
def N.ok (x:N):Prop:=(-1≤x.p∧x.p≤7)∧∀ f,f<4→(x.m f:Int)≤top f∧Sub (x.v f) (x.m f)
theorem N.ok_iff (x:N):x.toM.ok↔x.ok:=by
 unfold M.ok N.ok
 refine and_congr Iff.rfl (forall_congr' fun f=>forall_congr' fun hf=>?_)
 rw [N.toM_v,N.toM_m]
 have ht:=top_lt f
 constructor
 ·rintro ⟨h1,h2,h3,h4,h5⟩
  exact ⟨h2,(sub_iff (by omega)).1 ⟨by omega,fun i hi=>(bit_le _ _ i).1 (h5 i hi)⟩⟩
 ·rintro ⟨h1,h2⟩
  have:=le_of_sub h2
  exact ⟨by omega,h1,by omega,by omega,fun i _=>(bit_le _ _ i).2 (h2 i)⟩
def N.lt (x:N):Prop:=∀ f,f<4→x.v f<256∧x.m f<256
theorem N.ok.lt {x:N} (h:x.ok):x.lt:=fun f hf=>by
 obtain ⟨h1,h2⟩:=h.2 f hf
 have:=top_lt f
 have:=le_of_sub h2
 omega
end Mt
end Go.Proofs.YtmehinfgdcmmjaaGreatDoor
namespace Go.Proofs
open Go.Shelf
def Tryz.lays156_ren:Go.Shelf.Ren:=⟨fun | 156=>97 | 165=>138 | 166=>139 | 169=>140 | 240=>180 | 241=>181 | 276=>224 | 277=>225 | n=>n,fun | 31=>155 | 9=>9 | 3=>3 | 4=>4 | 0=>0 | 20=>20 | 72=>208 | 76=>212 | 70=>205 | 37=>206 | 75=>211 | 127=>252 | 164=>281 | 5=>5 | 80=>214 | n=>n,fun | n=>n⟩
theorem Tryz.lays156:Go.Proofs.Lays.n156 Tryz.prog Tryz.lays156_ren:={
 mixed:=by kernel_rfl
 f156:=Tryz.func97.trans (congrArg some (by kernel_rfl))
 f165:=Tryz.func138.trans (congrArg some (by kernel_rfl))
 f166:=Tryz.func139.trans (congrArg some (by kernel_rfl))
 f169:=Tryz.func140.trans (congrArg some (by kernel_rfl))
 f240:=Tryz.func180.trans (congrArg some (by kernel_rfl))
 f241:=Tryz.func181.trans (congrArg some (by kernel_rfl))
 f276:=Tryz.func224.trans (congrArg some (by kernel_rfl))
 f277:=Tryz.func225.trans (congrArg some (by kernel_rfl))
 t0:=Tryz.underlying0
 a0:=Tryz.isAgg0
 z0:=Tryz.sizeOf0
 v0:=Tryz.zeroValue0
 t3:=Tryz.underlying3
 a3:=Tryz.isAgg3
 z3:=Tryz.sizeOf3
 v3:=Tryz.zeroValue3
 t4:=Tryz.underlying4
 a4:=Tryz.isAgg4
 z4:=Tryz.sizeOf4
 v4:=Tryz.zeroValue4
 t9:=Tryz.underlying9
 a9:=Tryz.isAgg9
 z9:=Tryz.sizeOf9
 v9:=Tryz.zeroValue9
 t20:=Tryz.underlying20
 a20:=Tryz.isAgg20
 z20:=Tryz.sizeOf20
 v20:=Tryz.zeroValue20
 t31:=Tryz.underlying155
 a31:=Tryz.isAgg155
 z31:=Tryz.sizeOf155
 v31:=Tryz.zeroValue155
 t37:=Tryz.underlying206
 a37:=Tryz.isAgg206
 z37:=Tryz.sizeOf206
 v37:=Tryz.zeroValue206
 t70:=Tryz.underlying205
 a70:=Tryz.isAgg205
 z70:=Tryz.sizeOf205
 v70:=Tryz.zeroValue205
 t72:=Tryz.underlying208
 a72:=Tryz.isAgg208
 z72:=Tryz.sizeOf208
 v72:=Tryz.zeroValue208
 t75:=Tryz.underlying211
 a75:=Tryz.isAgg211
 z75:=Tryz.sizeOf211
 v75:=Tryz.zeroValue211
 t76:=Tryz.underlying212
 a76:=Tryz.isAgg212
 z76:=Tryz.sizeOf212
 v76:=Tryz.zeroValue212
 t127:=Tryz.underlying252
 a127:=Tryz.isAgg252
 z127:=Tryz.sizeOf252
 v127:=Tryz.zeroValue252
 t164:=Tryz.underlying281
 a164:=Tryz.isAgg281
 z164:=Tryz.sizeOf281
 v164:=Tryz.zeroValue281 }
theorem Tryz.Builder_Extra_156:Builder.Extra Tryz.prog Tryz.lays156_ren:={
 sizeBuilder:=by kernel_rfl
 liesBuilder:=by kernel_rfl
 t5:=Tryz.underlying5
 a5:=Tryz.isAgg5
 z5:=Tryz.sizeOf5
 v5:=Tryz.zeroValue5
 infoByte:=by kernel_rfl
 cellsByte:=by kernel_rfl
 sizeByte:=by kernel_rfl
 neB5:=by decide }
open Go.RowKit in
theorem Tryz.strings_Join_none (a:Option Addr) (c:Nat) (sep:ByteArray) (w:World) :
  Calls Tryz.prog 97 #[.slice a 0 c,.string sep] w fun e w'=>e = .returned (.string ⟨#[]⟩)∧w'=w:=Any.strings_Join_none Tryz.lays156 Tryz.Builder_Extra_156 a c sep w
open Go.RowKit in
theorem Tryz.strings_Join (bk o c:Nat) (xs:List ByteArray) (sep:ByteArray) (w:World) (hcells:∀ (j:Nat) x,xs[j]?=some x→w.cell? ⟨bk,o+j,none⟩=some (.string x)) (hbk:bk<w.heap.size) (hN:xs.length≤140737488355328) (hcap:xs.length≤c) (hlen:(Lib.join (xs.map (·.data.toList)) sep.data.toList).length≤140737488355328) :
  Calls Tryz.prog 97 #[.slice (some ⟨bk,o,none⟩) xs.length c,.string sep] w fun e w'=>e = .returned (.string ⟨(Lib.join (xs.map (·.data.toList)) sep.data.toList).toArray⟩)∧Below w.heap.size w w':=Any.strings_Join Tryz.lays156 Tryz.Builder_Extra_156 bk o c xs sep w hcells hbk hN hcap hlen
def Tryz.lays137_ren:Go.Shelf.Ren:=⟨fun | 137=>215 | 217=>235 | 266=>245 | n=>n,fun | 9=>9 | 5=>5 | 3=>3 | n=>n,fun | n=>n⟩
theorem Tryz.lays137:Go.Proofs.Lays.n137 Tryz.prog Tryz.lays137_ren:={
 mixed:=by kernel_rfl
 f137:=Tryz.func215.trans (congrArg some (by kernel_rfl))
 f217:=Tryz.func235.trans (congrArg some (by kernel_rfl))
 f266:=Tryz.func245.trans (congrArg some (by kernel_rfl))
 t3:=Tryz.underlying3
 a3:=Tryz.isAgg3
 z3:=Tryz.sizeOf3
 v3:=Tryz.zeroValue3
 t5:=Tryz.underlying5
 a5:=Tryz.isAgg5
 z5:=Tryz.sizeOf5
 v5:=Tryz.zeroValue5
 t9:=Tryz.underlying9
 a9:=Tryz.isAgg9
 z9:=Tryz.sizeOf9
 v9:=Tryz.zeroValue9 }
open Go.RowKit in
theorem Tryz.strings_IndexByte (s:ByteArray) (c:Int) (w:World) :
  Calls Tryz.prog 215 #[.string s,.int .u8 c] w fun e w'=>e = .returned (.int .i64 (Lib.indexByte s.data.toList c.toNat.toUInt8))∧w'=w:=Any.strings_IndexByte Tryz.lays137 s c w
def Tryz.laysM171_ren:Go.Shelf.Ren:=⟨fun | 171=>51 | 243=>95 | 246=>137 | 283=>176 | 284=>177 | 285=>178 | 286=>179 | 129=>167 | 317=>220 | 318=>221 | 319=>222 | 320=>223 | 337=>239 | 338=>240 | n=>n,fun | 3=>3 | 9=>9 | 2=>2 | 4=>4 | 171=>248 | 0=>0 | 53=>237 | 37=>206 | 5=>5 | 173=>250 | 212=>279 | 51=>235 | 20=>20 | 213=>280 | 46=>172 | 232=>294 | 233=>295 | n=>n,fun | 17=>0 | 18=>2 | 19=>3 | n=>n⟩
theorem Tryz.laysM171:Go.Proofs.LaysM.n171 Tryz.prog Tryz.laysM171_ren:={
 mixed:=by kernel_rfl
 f129:=Tryz.func167.trans (congrArg some (by kernel_rfl))
 f171:=Tryz.func51.trans (congrArg some (by kernel_rfl))
 f243:=Tryz.func95.trans (congrArg some (by kernel_rfl))
 f246:=Tryz.func137.trans (congrArg some (by kernel_rfl))
 f283:=Tryz.func176.trans (congrArg some (by kernel_rfl))
 f284:=Tryz.func177.trans (congrArg some (by kernel_rfl))
 f285:=Tryz.func178.trans (congrArg some (by kernel_rfl))
 f286:=Tryz.func179.trans (congrArg some (by kernel_rfl))
 f317:=Tryz.func220.trans (congrArg some (by kernel_rfl))
 f318:=Tryz.func221.trans (congrArg some (by kernel_rfl))
 f319:=Tryz.func222.trans (congrArg some (by kernel_rfl))
 f320:=Tryz.func223.trans (congrArg some (by kernel_rfl))
 f337:=Tryz.func239.trans (congrArg some (by kernel_rfl))
 f338:=Tryz.func240.trans (congrArg some (by kernel_rfl))
 t0:=Tryz.underlying0
 a0:=Tryz.isAgg0
 z0:=Tryz.sizeOf0
 v0:=Tryz.zeroValue0
 t2:=Tryz.underlying2
 a2:=Tryz.isAgg2
 z2:=Tryz.sizeOf2
 v2:=Tryz.zeroValue2
 t3:=Tryz.underlying3
 a3:=Tryz.isAgg3
 z3:=Tryz.sizeOf3
 v3:=Tryz.zeroValue3
 t4:=Tryz.underlying4
 a4:=Tryz.isAgg4
 z4:=Tryz.sizeOf4
 v4:=Tryz.zeroValue4
 t5:=Tryz.underlying5
 a5:=Tryz.isAgg5
 z5:=Tryz.sizeOf5
 v5:=Tryz.zeroValue5
 t9:=Tryz.underlying9
 a9:=Tryz.isAgg9
 z9:=Tryz.sizeOf9
 v9:=Tryz.zeroValue9
 t20:=Tryz.underlying20
 a20:=Tryz.isAgg20
 z20:=Tryz.sizeOf20
 v20:=Tryz.zeroValue20
 t37:=Tryz.underlying206
 a37:=Tryz.isAgg206
 z37:=Tryz.sizeOf206
 v37:=Tryz.zeroValue206
 t46:=Tryz.underlying172
 a46:=Tryz.isAgg172
 z46:=Tryz.sizeOf172
 v46:=Tryz.zeroValue172
 t51:=Tryz.underlying235
 a51:=Tryz.isAgg235
 z51:=Tryz.sizeOf235
 v51:=Tryz.zeroValue235
 t53:=Tryz.underlying237
 a53:=Tryz.isAgg237
 z53:=Tryz.sizeOf237
 v53:=Tryz.zeroValue237
 t171:=Tryz.underlying248
 a171:=Tryz.isAgg248
 z171:=Tryz.sizeOf248
 v171:=Tryz.zeroValue248
 t173:=Tryz.underlying250
 a173:=Tryz.isAgg250
 z173:=Tryz.sizeOf250
 v173:=Tryz.zeroValue250
 t212:=Tryz.underlying279
 a212:=Tryz.isAgg279
 z212:=Tryz.sizeOf279
 v212:=Tryz.zeroValue279
 t213:=Tryz.underlying280
 a213:=Tryz.isAgg280
 z213:=Tryz.sizeOf280
 t232:=Tryz.underlying294
 a232:=Tryz.isAgg294
 z232:=Tryz.sizeOf294
 v232:=Tryz.zeroValue294
 t233:=Tryz.underlying295
 a233:=Tryz.isAgg295
 z233:=Tryz.sizeOf295
 v233:=Tryz.zeroValue295
 g17:=by kernel_rfl
 g18:=by kernel_rfl
 g19:=by kernel_rfl
 i0:=by kernel_rfl
 i2:=by kernel_rfl
 i3:=by kernel_rfl
 i4:=by kernel_rfl
 i5:=by kernel_rfl
 i9:=by kernel_rfl
 i20:=by kernel_rfl
 i37:=by kernel_rfl
 i46:=by kernel_rfl
 i51:=by kernel_rfl
 i53:=by kernel_rfl
 i171:=by kernel_rfl
 i173:=by kernel_rfl
 i212:=by kernel_rfl
 i232:=by kernel_rfl
 i233:=by kernel_rfl
 m17:=by kernel_rfl
 m18:=by kernel_rfl
 m19:=by kernel_rfl }
open Go.RowKit Go.Sort Go.Lib in
theorem Tryz.strconv_Itoa (n : Int) (h0 : -9223372036854775808 ≤ n) (h1 : n ≤ 9223372036854775807) (w : World) (htab : Lib.TabIs Tryz.prog w "internal/strconv.uint64pow10" .u64 Lib.pow10Tab) :
  Calls Tryz.prog 51 #[.int .i64 n] w fun e w'=>e = .returned (.string ⟨(Lib.itoa n).toArray⟩)∧∃ k os,w'=grow (w.drewN k) os:=Any.strconv_Itoa Tryz.laysM171 n h0 h1 w htab
def Tryz.laysSlE43_f105_ren:Go.Shelf.Ren:=⟨fun | 43=>105 | n=>n,fun | 22=>58 | 23=>3 | 3=>3 | 4=>4 | 0=>0 | n=>n,fun | n=>n⟩
theorem Tryz.laysSlE43_f105:Go.Proofs.SlLaysE.n43 Tryz.prog Tryz.laysSlE43_f105_ren:={
 mixed:=by kernel_rfl
 f43:=⟨Tryz.f105.name,by decide,Tryz.func105.trans (congrArg some (by kernel_rfl))⟩
 t0:=Tryz.underlying0
 a0:=Tryz.isAgg0
 z0:=Tryz.sizeOf0
 v0:=Tryz.zeroValue0
 t3:=Tryz.underlying3
 a3:=Tryz.isAgg3
 z3:=Tryz.sizeOf3
 v3:=Tryz.zeroValue3
 t4:=Tryz.underlying4
 a4:=Tryz.isAgg4
 z4:=Tryz.sizeOf4
 v4:=Tryz.zeroValue4
 t22:=Tryz.underlying58
 a22:=Tryz.isAgg58
 z22:=Tryz.sizeOf58
 v22:=Tryz.zeroValue58
 a23:=Tryz.isAgg3
 z23:=Tryz.sizeOf3 }
open Go.RowKit Go.Lib Go.Sort in
theorem Tryz.slices_Compact {α:Type} [Inhabited α] [DecidableEq α] (enc:α→Value) (hO:OneCell enc) (heq:EqlAt Tryz.prog 3 enc (fun x y=>decide (x=y))) (hne:NeqAt Tryz.prog 3 enc (fun x y=>decide (x=y))) (zr:α) (v23:∀ w,(zeroValue 3).run Tryz.prog w = .ok (enc zr) w) (blk off cap:Nat) (d:Array α) (w:World) (hH:Holds enc w blk off d) (hsz:d.size≤9223372036854775807) (hcap:d.size≤cap) :
  Calls Tryz.prog 105 #[.slice (some ⟨blk,off,none⟩) d.size cap] w fun e w'=>e = .returned (.slice (some ⟨blk,off,none⟩) (compactUpTo d d.size).length cap)∧∃ q,w'=putRow enc (Sort.ahead w q) blk off (compactUpTo d d.size++List.replicate (d.size - (compactUpTo d d.size).length) zr).toArray:=AnyE.slices_Compact Tryz.laysSlE43_f105 enc hO heq hne zr v23 blk off cap d w hH hsz hcap
def Tryz.laysSlM5_f104_ren:Go.Shelf.Ren:=⟨fun | 5=>104 | 8=>114 | 7=>148 | 19=>166 | 20=>167 | 10=>190 | 11=>191 | 12=>192 | 13=>193 | 14=>194 | 15=>195 | 16=>196 | 17=>197 | 18=>198 | 30=>229 | 31=>201 | 32=>202 | 33=>230 | 34=>231 | 35=>115 | 40=>244 | n=>n,fun | 23=>58 | 25=>3 | 3=>3 | 32=>172 | 22=>58 | 0=>0 | 44=>235 | 46=>237 | 4=>4 | 36=>228 | 35=>227 | 41=>232 | 5=>5 | 9=>9 | 53=>263 | 57=>267 | 63=>287 | 64=>288 | n=>n,fun | n=>n⟩
theorem Tryz.laysSlM5_f104:Go.Proofs.SlLaysM.n5 Tryz.prog Tryz.laysSlM5_f104_ren:={
 mixed:=by kernel_rfl
 f5:=⟨Tryz.f104.name,by decide,Tryz.func104.trans (congrArg some (by kernel_rfl))⟩
 f7:=⟨Tryz.f148.name,by decide,Tryz.func148.trans (congrArg some (by kernel_rfl))⟩
 f8:=Tryz.func114.trans (congrArg some (by kernel_rfl))
 f10:=⟨Tryz.f190.name,by decide,Tryz.func190.trans (congrArg some (by kernel_rfl))⟩
 f11:=⟨Tryz.f191.name,by decide,Tryz.func191.trans (congrArg some (by kernel_rfl))⟩
 f12:=⟨Tryz.f192.name,by decide,Tryz.func192.trans (congrArg some (by kernel_rfl))⟩
 f13:=⟨Tryz.f193.name,by decide,Tryz.func193.trans (congrArg some (by kernel_rfl))⟩
 f14:=⟨Tryz.f194.name,by decide,Tryz.func194.trans (congrArg some (by kernel_rfl))⟩
 f15:=⟨Tryz.f195.name,by decide,Tryz.func195.trans (congrArg some (by kernel_rfl))⟩
 f16:=⟨Tryz.f196.name,by decide,Tryz.func196.trans (congrArg some (by kernel_rfl))⟩
 f17:=⟨Tryz.f197.name,by decide,Tryz.func197.trans (congrArg some (by kernel_rfl))⟩
 f18:=⟨Tryz.f198.name,by decide,Tryz.func198.trans (congrArg some (by kernel_rfl))⟩
 f19:=Tryz.func166.trans (congrArg some (by kernel_rfl))
 f20:=Tryz.func167.trans (congrArg some (by kernel_rfl))
 f30:=⟨Tryz.f229.name,by decide,Tryz.func229.trans (congrArg some (by kernel_rfl))⟩
 f31:=Tryz.func201.trans (congrArg some (by kernel_rfl))
 f32:=Tryz.func202.trans (congrArg some (by kernel_rfl))
 f33:=⟨Tryz.f230.name,by decide,Tryz.func230.trans (congrArg some (by kernel_rfl))⟩
 f34:=⟨Tryz.f231.name,by decide,Tryz.func231.trans (congrArg some (by kernel_rfl))⟩
 f35:=⟨Tryz.f115.name,by decide,Tryz.func115.trans (congrArg some (by kernel_rfl))⟩
 f40:=⟨Tryz.f244.name,by decide,Tryz.func244.trans (congrArg some (by kernel_rfl))⟩
 t0:=Tryz.underlying0
 a0:=Tryz.isAgg0
 z0:=Tryz.sizeOf0
 v0:=Tryz.zeroValue0
 t3:=Tryz.underlying3
 a3:=Tryz.isAgg3
 z3:=Tryz.sizeOf3
 v3:=Tryz.zeroValue3
 t4:=Tryz.underlying4
 a4:=Tryz.isAgg4
 z4:=Tryz.sizeOf4
 v4:=Tryz.zeroValue4
 t5:=Tryz.underlying5
 a5:=Tryz.isAgg5
 z5:=Tryz.sizeOf5
 v5:=Tryz.zeroValue5
 t9:=Tryz.underlying9
 a9:=Tryz.isAgg9
 z9:=Tryz.sizeOf9
 v9:=Tryz.zeroValue9
 t22:=Tryz.underlying58
 a22:=Tryz.isAgg58
 z22:=Tryz.sizeOf58
 v22:=Tryz.zeroValue58
 t23:=Tryz.underlying58
 a23:=Tryz.isAgg58
 z23:=Tryz.sizeOf58
 v23:=Tryz.zeroValue58
 t25:=Tryz.underlying3
 a25:=Tryz.isAgg3
 z25:=Tryz.sizeOf3
 v25:=Tryz.zeroValue3
 t32:=Tryz.underlying172
 a32:=Tryz.isAgg172
 z32:=Tryz.sizeOf172
 v32:=Tryz.zeroValue172
 t35:=Tryz.underlying227
 a35:=Tryz.isAgg227
 z35:=Tryz.sizeOf227
 v35:=Tryz.zeroValue227
 t36:=Tryz.underlying228
 a36:=Tryz.isAgg228
 z36:=Tryz.sizeOf228
 v36:=Tryz.zeroValue228
 t41:=Tryz.underlying232
 a41:=Tryz.isAgg232
 z41:=Tryz.sizeOf232
 v41:=Tryz.zeroValue232
 t44:=Tryz.underlying235
 a44:=Tryz.isAgg235
 z44:=Tryz.sizeOf235
 v44:=Tryz.zeroValue235
 t46:=Tryz.underlying237
 a46:=Tryz.isAgg237
 z46:=Tryz.sizeOf237
 v46:=Tryz.zeroValue237
 t53:=Tryz.underlying263
 a53:=Tryz.isAgg263
 z53:=Tryz.sizeOf263
 v53:=Tryz.zeroValue263
 t57:=Tryz.underlying267
 a57:=Tryz.isAgg267
 z57:=Tryz.sizeOf267
 v57:=Tryz.zeroValue267
 t63:=Tryz.underlying287
 a63:=Tryz.isAgg287
 z63:=Tryz.sizeOf287
 v63:=Tryz.zeroValue287
 t64:=Tryz.underlying288
 a64:=Tryz.isAgg288
 z64:=Tryz.sizeOf288
 v64:=Tryz.zeroValue288 }
open Go.Sort Go.RowKit in
theorem Tryz.slices_Sort_int (blk off cap:Nat) (zs:List Int) (w:World) (hH:Holds (Value.int .i64) w blk off zs.toArray) (hblk:blk<w.heap.size) (hsz:zs.length<4611686018427387904) :
  Calls Tryz.prog 104 #[.slice (some ⟨blk,off,none⟩) zs.length cap] w fun e w' =>
   e = .returned (.tuple #[])∧∃ n os,w'=grow (putRow (Value.int .i64) (Sort.ahead w n) blk off (zs.mergeSort fun x y=>decide (x≤y)).toArray) os:=AnyM.slices_Sort_int Tryz.laysSlM5_f104 blk off cap zs w hH hblk hsz
open Go.RowKit Go.Sort in
theorem Tryz.slices_Sort_int_none (p:Option Addr) (cap:Nat) (w:World) :
  Calls Tryz.prog 104 #[.slice p 0 cap] w fun e w'=>e = .returned (.tuple #[])∧w'=w:=AnyM.slices_Sort_int_none Tryz.laysSlM5_f104 p cap w
end Go.Proofs
namespace Go.Proofs.YtmehinfgdcmmjaaGreatDoor
open Go.Sx
set_option maxRecDepth 20000
set_option linter.unusedSimpArgs false
set_option linter.unusedVariables false
set_option maxHeartbeats 4000000
theorem om (f:Int) (b:Bool) (hb:b=true↔0≤f∧f<4):Qz Tryz.prog 110 [.int .i64 f] [] fun r _=>r = .bool b:=by
 refine aB Tryz.func110 rfl (by decide) ?_
 cases b
 ·have hn:¬ (0≤f∧f<4):=fun h=>by cases hb.2 h
  repeat' first|(refine sxZ ?_;try clear hK K)|refine sxW ?_ ?_<;>intro _|(intro K hK _;conv=>whnf)
  all_goals first
   | rfl
   | (congr 1;simp only [decide_eq_false_iff_not];omega)
   | (exfalso;omega)
 ·have hp:=hb.1 rfl
  repeat' first|(refine sxZ ?_;try clear hK K)|refine sxW ?_ ?_<;>intro _|(intro K hK _;conv=>whnf)
  all_goals first
   | rfl
   | (congr 1;simp only [decide_eq_true_eq];omega)
   | (exfalso;omega)
theorem nv (s:Po.S) (f v:Int):Qz Tryz.prog 65 [.agg [.int .i64 s.p0,.int .i64 s.p1,.int .i64 s.p2,.int .i64 s.p3],.int .i64 f,.int .i64 v] [] fun r _=>r = .agg [.int .i64 (Po.withS f v s).p0,.int .i64 (Po.withS f v s).p1,.int .i64 (Po.withS f v s).p2,.int .i64 (Po.withS f v s).p3]:=by
 refine Qz.fits (K:=fun r m=>r = .agg [.int .i64 (Po.withS f v s).p0,.int .i64 (Po.withS f v s).p1,.int .i64 (Po.withS f v s).p2,.int .i64 (Po.withS f v s).p3]) ?_ fun r m' h=>⟨r,_,rfl,Qw.eq rfl,h⟩
 have ht:Qz Tryz.prog 61 [.int .i64 f] [] fun r _=>r = .int .i64 (Po.ptop f):=ptop26_c f
 refine aB Tryz.func65 rfl (by decide) ?_
 have hw:Po.withS f v s=if (0≤f∧f<4)∧0≤v∧v≤Po.ptop f then (if f=0 then { s with p0:=v } else if f=1 then { s with p1:=v } else if f=2 then { s with p2:=v } else { s with p3:=v }) else s:=rfl
 by_cases h4:0≤f∧f<4
 ·have hi:=om f true (by simpa using h4)
  generalize Po.withS f v s=E at *
  generalize Po.ptop f=tp at *
  obtain ⟨a0,a,b,c,d⟩:=s
  by_cases hv:0≤v∧v≤tp
  ·rw [if_pos ⟨h4,hv⟩] at hw
   have h4':f=0∨f=1∨f=2∨f=3:=by omega
   rcases h4' with rfl | rfl | rfl | rfl
   all_goals
    subst hw
    simp only
    repeat' first|(intro K hK;(with_reducible refine gC ?_);first|refine cP hi ?_|refine cP ht ?_)|(refine sxZ ?_;try clear hK K)|refine sxW ?_ ?_<;>intro _|(intro K hK _;conv=>whnf)
    all_goals rfl
  ·rw [if_neg (fun h=>hv h.2)] at hw
   subst hw
   simp only
   repeat' first|(intro K hK;(with_reducible refine gC ?_);first|refine cP hi ?_|refine cP ht ?_)|(refine sxZ ?_;try clear hK K)|refine sxW ?_ ?_<;>intro _|(intro K hK _;conv=>whnf)
   all_goals first | rfl | (exfalso;omega)
 ·have hi:=om f false (by simpa using h4)
  rw [if_neg (fun h=>h4 h.1)] at hw
  rw [hw]
  obtain ⟨a0,a,b,c,d⟩:=s
  simp only
  repeat' first|(intro K hK;(with_reducible refine gC ?_);refine cP hi ?_)|(refine sxZ ?_;try clear hK K)|refine sxW ?_ ?_<;>intro _|(intro K hK _;conv=>whnf)
  all_goals rfl
theorem p4 (k f v:Int) (p0 p1 p2:Int) (pv uv:AV) (s:Po.S):Qz Tryz.prog 67 [.agg [.int .i64 k,.int .i64 p0,.int .i64 p1,.int .i64 p2,pv,.int .i64 f,.int .i64 v,uv],.agg s.av] [] fun r _=>r = .agg (Po.put f v s).av:=by
 refine Qz.fits (K:=fun r m=>r = .agg (Po.put f v s).av) ?_ fun r m' h=>⟨r,_,rfl,Qw.eq rfl,h⟩
 have cw:=nv s f v
 have hp : (Po.withS f v s).port = s.port := by unfold Po.withS; repeat' split
                                                all_goals rfl
 have hput:Po.put f v s=if f=4 then { s with port:=v } else Po.withS f v s:=rfl
 refine aB Tryz.func67 rfl (by decide) ?_
 unfold Po.S.av
 generalize Po.put f v s=E at *
 generalize Po.withS f v s=W at *
 obtain ⟨w,w0,w1,w2,w3⟩:=W
 obtain ⟨a0,a,b,c,d⟩:=s
 simp only at hp cw
 subst hp
 by_cases h4:f=4
 ·rw [if_pos h4] at hput
  subst hput h4
  simp only
  repeat' first|(refine sxZ ?_;try clear hK K)|refine sxW ?_ ?_<;>intro _|(intro K hK _;conv=>whnf)
  all_goals rfl
 ·rw [if_neg h4] at hput
  subst hput
  simp only
  repeat' first|(intro K hK;(with_reducible refine gC ?_);refine cP cw ?_)|(refine sxZ ?_;try clear hK K)|refine sxW ?_ ?_<;>intro _|(intro K hK _;conv=>whnf)
  all_goals rfl
theorem mG (n:Int):Qz Tryz.prog 115 [.int .i64 n] [] fun r _=>r = .bool false:=by
 refine aB Tryz.func115 rfl (by decide) ?_
 repeat' first|(refine sxZ ?_;try clear hK K)|refine sxW ?_ ?_<;>intro _|(intro K hK _;conv=>whnf)
 all_goals simp
theorem dl (a b:Int):Qz Tryz.prog 73 [.int .i64 a,.int .i64 b] [] fun r _=>r = .int .i64 (Po.cmpI a b):=by
 have ca:=mG a
 have cb:=mG b
 have hc:Po.cmpI a b=if a<b then -1 else if b<a then 1 else 0:=rfl
 generalize Po.cmpI a b=c at *
 refine aB Tryz.func73 rfl (by decide) ?_
 by_cases h1:a<b
 ·rw [if_pos h1] at hc
  repeat' first|(intro K hK;(with_reducible refine gC ?_);first|refine cP ca ?_|refine cP cb ?_)|(refine sxZ ?_;try clear hK K)|refine sxW ?_ ?_<;>intro _|(intro K hK _;conv=>whnf)
  all_goals first | (rw [hc]) | (exfalso;omega)
 ·rw [if_neg h1] at hc
  by_cases h2:b<a
  ·rw [if_pos h2] at hc
   repeat' first|(intro K hK;(with_reducible refine gC ?_);first|refine cP ca ?_|refine cP cb ?_)|(refine sxZ ?_;try clear hK K)|refine sxW ?_ ?_<;>intro _|(intro K hK _;conv=>whnf)
   all_goals first | (rw [hc]) | (exfalso;omega)
  ·rw [if_neg h2] at hc
   repeat' first|(intro K hK;(with_reducible refine gC ?_);first|refine cP ca ?_|refine cP cb ?_)|(refine sxZ ?_;try clear hK K)|refine sxW ?_ ?_<;>intro _|(intro K hK _;conv=>whnf)
   all_goals first | (rw [hc]) | (exfalso;omega)
namespace Srt
def av (l:List Int):List AV:=l.map fun z=>.int .i64 z
def V (z:Int):List Value:=[.int .i64 z]
abbrev Row (F:Heap) (v:Value) (l:List Int):Prop:=aI F 1 (fun x us=>us=V x) v l
theorem av_den:∀ l,denL (av l)=l.map (Value.int .i64)
 | []=>rfl
 | x::l=>by
  have:=av_den l
  unfold av at *
  rw [List.map_cons,denL,this]
  rfl
theorem av_flat (l:List Int):denL (av l)=l.flatMap V:=by
 rw [av_den]
 induction l with
 | nil=>rfl
 | cons x l ih=>rw [List.map_cons,ih];rfl
theorem av_len (l:List Int):(av l).length=l.length:=by unfold av;rw [List.length_map]
theorem av_append (a b:List Int):av (a++b)=av a++av b:=by unfold av;rw [List.map_append]
def sort (l:List Int):List Int:=l.mergeSort fun x y=>decide (x≤y)
theorem sort_len (l:List Int):(sort l).length=l.length:=List.length_mergeSort l
def cutTo (v:Value) (k:Nat):Value:=match v with | .slice a _ c=>.slice a k c | _=>v
end Srt
theorem oK (v:Value) (t:TypeId) (l:List Int) (hl:l.length<4611686018427387904) :
  Qz Tryz.prog 104 [.sl 0 v l.length] [⟨addrOf v,Srt.av l,.row v t 1 l.length⟩] fun r m=>r = .tup []∧m=[⟨addrOf v,Srt.av (Srt.sort l),.row v t 1 l.length⟩]:=by
 rw [aN]
 refine ⟨Go.Sx.enters_of Tryz.func104 rfl (by decide),fun w hm=>?_⟩
 obtain ⟨⟨h1,h2⟩,h3⟩:=hm.holds _ (List.mem_singleton.2 rfl)
 rcases h2 with ⟨rfl,hn⟩ | ⟨g,cap,cur,rfl,_,hg,hle,hcap,hsz,htk⟩
 ·have e:l=[]:=List.length_eq_zero_iff.1 hn
  subst e
  rw [show Srt.sort []=[] by unfold Srt.sort;simp]
  refine (Tryz.slices_Sort_int_none none 0 w).mono fun e w' ⟨he,hw⟩=>?_
  subst hw
  exact ⟨.tup [],_,⟨rfl,rfl⟩,he,hm,Fr.refl _ _,Fresh.self _ _⟩
 ·rw [Nat.mul_one,Srt.av_den] at htk
  have hlt:g<w.heap.size:=(Array.getElem?_eq_some_iff.1 hg).1
  refine (Tryz.slices_Sort_int g 0 cap l w (Go.holds_of_blockI hg htk) hlt hl).mono fun e w' ⟨he,n,os,hw⟩=>?_
  have hgr:=Go.grownBy_sortedI (w:=w) (g:=g) (n:=n) (os:=os) (Srt.sort l).toArray
  have hown:=Go.ownsRow_sortedI (w:=w) (base:=0) (n:=n) (e:=t) (os:=os) (ss:=l) (ts:=Srt.sort l) (Srt.sort_len l) (Nat.zero_le _) hg hle hcap hsz
  rw [← Srt.av_den] at hown
  have hw':w'=Go.Sort.grow (Go.Sort.putRow (Value.int .i64) (Go.Sort.ahead w n) g 0 (Srt.sort l).toArray) os:=hw
  rw [← hw'] at hgr hown
  have hfr:=Fr.grown hgr
  refine ⟨.tup [],_,⟨rfl,rfl⟩,he,?_,?_,?_⟩
  ·exact hm.set (i:=0) (k:=⟨addrOf (.slice (some ⟨g,0,none⟩) l.length cap),Srt.av (Srt.sort l),.row (.slice (some ⟨g,0,none⟩) l.length cap) t 1 l.length⟩) hfr.size rfl rfl
    (fun b hb hlt=>hfr.block b hlt fun e=>hb e) ⟨hown,rfl⟩ rfl (.inr (.inl rfl))
  ·exact ⟨hfr.os,hfr.tape,hfr.output,hfr.size,fun k hk hS=>hfr.block k hk fun e=>hS ⟨_,List.mem_singleton.2 rfl,rfl,e⟩⟩
  ·exact Fresh.set (i:=0) (Fresh.self _ _) (k:=⟨addrOf (.slice (some ⟨g,0,none⟩) l.length cap),Srt.av (Srt.sort l),.row (.slice (some ⟨g,0,none⟩) l.length cap) t 1 l.length⟩) rfl fun b hb=>.inl ⟨_,List.mem_singleton.2 rfl,rfl,hb⟩
namespace Srt
def comp (l:List Int):List Int:=Go.Lib.compact l
theorem comp_le (l:List Int):(comp l).length≤l.length:=by
 unfold comp Go.Lib.compact Go.Lib.compactUpTo
 rw [List.length_map]
 exact Nat.le_trans (List.length_filter_le _ _) (by simp)
def comped (l:List Int):List Int:=comp l++List.replicate (l.length - (comp l).length) 0
theorem comped_len (l:List Int):(comped l).length=l.length:=by
 have:=comp_le l
 unfold comped
 rw [List.length_append,List.length_replicate]
 omega
end Srt
theorem ke (t:TypeId):Qz Tryz.prog 105 [.sl 0 (.slice none 0 0) 0] [⟨addrOf (.slice none 0 0),[],.row (.slice none 0 0) t 1 0⟩] fun r m=>r = .sl 0 (.slice none 0 0) 0∧m=[⟨addrOf (.slice none 0 0),[],.row (.slice none 0 0) t 1 0⟩]:=by
 refine aB Tryz.func105 rfl (by decide) ?_
 repeat' first|(refine sxZ ?_;try clear hK K)|refine sxW ?_ ?_<;>intro _|(intro K hK _;conv=>whnf)
 all_goals exact ⟨rfl,rfl⟩
theorem iS (v:Value) (t:TypeId) (l:List Int) (hl:l.length≤9223372036854775807) :
  Qz Tryz.prog 105 [.sl 0 v l.length] [⟨addrOf v,Srt.av l,.row v t 1 l.length⟩] fun r m=>r = .raw (Srt.cutTo v (Srt.comp l).length)∧m=[⟨addrOf v,Srt.av (Srt.comped l),.row v t 1 l.length⟩]:=by
 rw [aN]
 refine ⟨Go.Sx.enters_of Tryz.func105 rfl (by decide),fun w hm=>?_⟩
 obtain ⟨⟨h1,h2⟩,h3⟩:=hm.holds _ (List.mem_singleton.2 rfl)
 rcases h2 with ⟨rfl,hn⟩ | ⟨g,cap,cur,rfl,_,hg,hle,hcap,hsz,htk⟩
 ·have e:l=[]:=List.length_eq_zero_iff.1 hn
  subst e
  refine ((aN.1 (ke t)).2 w hm).mono fun e w' ⟨r,m',⟨hr,hm'⟩,he,h⟩=>?_
  subst hr hm'
  exact ⟨.raw (.slice none 0 0),_,⟨rfl,rfl⟩,he,h⟩
 ·rw [Nat.mul_one,Srt.av_den] at htk
  have hlt:g<w.heap.size:=(Array.getElem?_eq_some_iff.1 hg).1
  have hc:=Tryz.slices_Compact (Value.int .i64) (fun _=>rfl) (EqlAt.intD _ _ .i64) (NeqAt.intD _ _ .i64) 0 Tryz.zeroValue3 g 0 cap l.toArray w (Go.holds_of_blockI hg htk) (by simpa using hl) (by simpa using hle)
  refine hc.mono fun e w' ⟨he,n,hw⟩=>?_
  have hgr:=Go.grownBy_sortedI (w:=w) (g:=g) (n:=n) (os:=#[]) (Srt.comped l).toArray
  have hown:=Go.ownsRow_sortedI (w:=w) (base:=0) (n:=n) (e:=t) (os:=#[]) (ss:=l) (ts:=Srt.comped l) (Srt.comped_len l) (Nat.zero_le _) hg hle hcap hsz
  rw [← Srt.av_den] at hown
  have hw':w'=Go.Sort.grow (Go.Sort.putRow (Value.int .i64) (Go.Sort.ahead w n) g 0 (Srt.comped l).toArray) #[]:=by rw [Go.Sort.grow_empty];exact hw
  rw [← hw'] at hgr hown
  have hfr:=Fr.grown hgr
  refine ⟨.raw (.slice (some ⟨g,0,none⟩) (Srt.comp l).length cap),_,⟨rfl,rfl⟩,he,?_,?_,?_⟩
  ·exact hm.set (i:=0) (k:=⟨addrOf (.slice (some ⟨g,0,none⟩) l.length cap),Srt.av (Srt.comped l),.row (.slice (some ⟨g,0,none⟩) l.length cap) t 1 l.length⟩) hfr.size rfl rfl
    (fun b hb hlt=>hfr.block b hlt fun e=>hb e) ⟨hown,rfl⟩ rfl (.inr (.inl rfl))
  ·exact ⟨hfr.os,hfr.tape,hfr.output,hfr.size,fun k hk hS=>hfr.block k hk fun e=>hS ⟨_,List.mem_singleton.2 rfl,rfl,e⟩⟩
  ·exact Fresh.set (i:=0) (Fresh.self _ _) (k:=⟨addrOf (.slice (some ⟨g,0,none⟩) l.length cap),Srt.av (Srt.comped l),.row (.slice (some ⟨g,0,none⟩) l.length cap) t 1 l.length⟩) rfl fun b hb=>.inl ⟨_,List.mem_singleton.2 rfl,rfl,hb⟩
namespace Srt
theorem row_cut {F:Heap} {v:Value} {a b:List Int} (h:Row F v (a++b)):Row F (cutTo v a.length) a∧cutTo v a.length=aw (cutTo v a.length):=by
 obtain ⟨⟨A,cap,rfl,hle,hA⟩,hat⟩:=h
 rw [List.length_append] at hle
 refine ⟨⟨⟨A,cap,rfl,by omega,hA⟩,fun k x hx=>?_⟩,rfl⟩
 have hk:=(List.getElem?_eq_some_iff.1 hx).1
 have e:addrOf (cutTo (.slice A (a++b).length cap) a.length)=addrOf (.slice A (a++b).length cap):=by cases A<;>rfl
 rw [e]
 exact hat k x (by rw [List.getElem?_append_left hk];exact hx)
end Srt
namespace Pd
def psC (ps:List (T × Value)):List AV:=ps.flatMap fun p=>cs p.1 p.2
def psV (p:T × Value):List Value:=denL (cs p.1 p.2)
theorem psC_den:∀ ps,denL (psC ps)=ps.flatMap psV
 | []=>rfl
 | p::ps=>by
  have:=psC_den ps
  unfold psC at *
  rw [List.flatMap_cons,List.flatMap_cons,aS,this]
  rfl
theorem psC_len (ps:List (T × Value)):(psC ps).length=ps.length*4:=by
 induction ps with
 | nil=>rfl
 | cons p ps ih =>
  unfold psC at *
  rw [List.flatMap_cons,List.length_append,ih,List.length_cons]
  show 4+_=_
  omega
theorem psC_next (ps:List (T × Value)) (p:T × Value):psC (ps++[p])=psC ps++cs p.1 p.2:=by
 unfold psC
 rw [List.flatMap_append]
 simp
def Got (F:Heap) (t:TypeId) (X:T) (v:AV) (m:List Blk):Prop :=
 ∃ G u,∃ ps:List (T × Value),F.le G∧ps.map (·.1)=X.l∧(∀ p∈ps,Row G p.2 p.1.l)∧v.den=(AV.agg (cs X u)).den∧Qw m [hpB G,⟨addrOf u,psC ps,.row u t 4 ps.length⟩]
theorem row_of {G:Heap} {u:Value} {ps:List (T × Value)} (h:aI G 4 (fun p vs=>vs=psV p) u ps) (hall:∀ p∈ps,Row G p.2 p.1.l):Row G u (ps.map (·.1)):=by
 refine ⟨by rw [List.length_map];exact h.ok,fun k x hx=>?_⟩
 rw [List.getElem?_map] at hx
 cases hp:ps[k]? with
 | none=>rw [hp] at hx;cases hx
 | some p =>
  rw [hp] at hx
  simp only [Option.map_some,Option.some.injEq] at hx
  subst hx
  obtain ⟨vs,h1,h2,h3⟩:=h.at_ k p hp
  have hr:=hall p (List.mem_of_getElem? hp)
  refine ⟨vs,?_,h2,h3⟩
  obtain ⟨A,cap,hv,hle,hz⟩:=hr.ok
  rw [h1]
  obtain ⟨x,w⟩:=p
  dsimp only at hv hr ⊢
  subst hv
  exact R.of hr
theorem got_know {f:FuncId} {args:List AV} {F:Heap} {t:TypeId} {m:List Blk} {X:T} (h:Qz Tryz.prog f args m fun v m'=>Got F t X v m') :
  Qz Tryz.prog f args m fun v m'=>∃ F' u,F.le F'∧Row F' u X.l∧v = .agg (cs X u)∧m'=[hpB F']:=by
 refine Go.Sx.Qz.know h fun r m' ⟨G,u,ps,hle,hmap,hall,hr,hm⟩ ⟨w,hw⟩=>?_
 have hok:=((hm w hw).1.row (List.mem_cons_of_mem _ (List.mem_cons_self ..))).1
 have hrow:=aM (F:=G) (sz:=4) (enc:=psV) hok (psC_den ps) (fun x _=>rfl)
 refine ⟨_,_,hr.symm,hm.trans (Qw.freeze (m:=[])),_,u,hle.trans addF.old,?_,rfl,rfl⟩
 rw [← hmap]
 exact row_of hrow fun p hp=>Row.mono addF.old (hall p hp)
abbrev Lays (F:Heap) (X:T) (r:AV) (m:List Blk):Prop:=∃ F' u,F.le F'∧Row F' u X.l∧r = .agg (cs X u)∧m=[hpB F']
end Pd
theorem kG:∀ (n:Nat) (F:Heap) (p:Pd.T) (u:Value),Pd.size p≤n→Pd.size p≤2932031007402→Pd.Row F u p.l →
  Qz Tryz.prog 29 [.agg (Pd.cs p u)] [hpB F] fun r m=>Pd.Lays F p r m
 | 0,F,p,u,hn,_,_=>absurd (Pd.size_pos p) (by omega)
 | n+1,F,⟨k,f,v,l⟩,u,hn,hs,hu=>by
  refine Pd.got_know (t:=39) ?_
  have hu:Pd.Row F u l:=hu
  have hok:=hu.ok
  have e2:Pd.size (.mk k f v l)=1+Pd.sizeL l:=by rw [Pd.size]
  have hll:=Pd.length_le l
  have ih:∀ G,∀ x∈l,∀ w,Pd.Row G w x.l→Qz Tryz.prog 29 [.agg (Pd.cs x w)] [hpB G] fun r m=>Pd.Lays G x r m:=fun G x hx w hw=>kG n G x w (by have:=Pd.size_lt (k:=k) (f:=f) (v:=v) hx;omega) (by have:=Pd.size_lt (k:=k) (f:=f) (v:=v) hx;omega) hw
  refine aB Tryz.func29 rfl (by decide) ?_
  rw [pd_cs]
  repeat' first|(refine sxZ ?_;try clear hK K)|refine sxW ?_ ?_<;>intro _|(intro K hK _;conv=>whnf)
  refine aE (α:=Heap × Value × List (Pd.T × Value)) (fun (G,w,ps)=>F.le G∧ps.map (·.1)=l.take ps.length∧ps.length≤l.length∧∀ p∈ps,Pd.Row G p.2 p.1.l) (fun (G,w,ps)=>[.k,.k,.k,.k,.set (.int .i64 ps.length),.k,.k,.k,.k,.k,.k,.k,.d,.d,.d,.d,.d,.d,.d,.d,.d,.d,.d,.d,.d,.d,.d,.d,.d,.d,.k])
   (fun (G,w,ps)=>[.set (hpB G),.k,.k,.cells [.int .i64 k,.int .i64 f,.int .i64 v,.sl 4 w ps.length],.set ⟨addrOf w,Pd.psC ps,.row w 39 4 ps.length⟩]) (fun (G,w,ps)=>l.length - ps.length) (F,.slice none 0 0,[]) ⟨F.le_refl,rfl,Nat.zero_le _,fun p hp=>by simp at hp⟩ ?_ ((Qw.nilRow _ 39 4).trans (Qw.congr rfl)) ?_
  ·exact aD
  (intro ⟨G,w,ps⟩ ⟨hle,hmap,hlen,hall⟩;intro K hK;(conv=>whnf);refine hK _ _ ?_;clear hK K)
  dsimp only
  generalize hk:ps.length=i at *
  by_cases hlt:i<l.length
  ·have hx:l[i]?=some l[i]:=List.getElem?_eq_getElem hlt
   obtain ⟨A,cap,hA,c0,c1,c2,c3⟩:=(Pd.Row.mono hle hu).get hx
   have hmem:=List.mem_of_getElem? hx
   have c:=ih G _ hmem _ hA
   have hnx:l.take (i+1)=l.take i++[l[i]]:=by rw [List.take_add_one,hx];rfl
   clear ih
   generalize l[i]=x at *
   have hpl:=Pd.psC_len ps
   have hpn:=Pd.psC_next ps
   generalize hpc:Pd.psC ps=pc at *
   obtain ⟨xk,xf,xv,xl⟩:=x
   simp only [Pd.Lays,Pd.cs,Pd.T.k,Pd.T.f,Pd.T.v,Pd.T.l] at c c0 c1 c2 c3 hA
   repeat' first|(intro K hK;(with_reducible refine gC ?_);(refine cN [0] c ?_;rintro _ _ ⟨G',w',hle2,hrow,rfl,rfl⟩;refine cR ?_))|(refine sxO ?_;try clear hK K)|refine sxW ?_ ?_<;>intro _|refine sxV ?_ ?_|(intro K hK _;conv=>whnf)
   all_goals
    rename_i v9
    refine aC (G',v9,ps++[(⟨xk,xf,xv,xl⟩,w')]) ⟨hle.trans hle2,by rw [List.map_append,hmap,List.length_append,hk];exact hnx.symm,by rw [List.length_append,hk];exact hlt,fun x hx=>?_⟩ (by rw [List.length_append,hk];show l.length - (i+1)<l.length - i;omega) ?_ (Qw.pre 5 ?_)
    ·rcases List.mem_append.1 hx with hx | hx
     ·exact Pd.Row.mono hle2 (hall x hx)
     ·rw [List.mem_singleton.1 hx];exact hrow
    ·simp only [List.length_append,hk]
     exact aD
    ·simp only [autoM,List.take,List.length_append,hk,hpn]
     rw [show i+[((⟨xk,xf,xv,xl⟩:Pd.T),w')].length=i+1 from rfl]
     rfl
  ·have hkl:i=l.length:=by omega
   subst hkl
   repeat' first|(refine sxZ ?_;try clear hK K)|refine sxW ?_ ?_<;>intro _|(intro K hK _;conv=>whnf)
   all_goals exact ⟨G,w,ps,hle,by rw [hmap,List.take_length];rfl,hall,rfl,by rw [hk];exact Qw.pick [0,4] (by decide) rfl⟩
namespace Po
abbrev IRow (F:Heap) (v:Value) (l:List Int):Prop:=aI F 1 (fun x us=>us=[.int .i64 x]) v l
theorem IRow.at1 {F:Heap} {v:Value} {l:List Int} (h:IRow F v l) {i:Nat} {x:Int} (hx:l[i]?=some x):F.c ((addrOf v).add i) (.int .i64 x):=by
 obtain ⟨us,rfl,_,h2⟩:=h.at_ i x hx
 rw [Nat.mul_one] at h2
 exact h2.1
def cmpL:List Int→List Int→Int
 | x::a,y::b=>if cmpI x y≠0 then cmpI x y else cmpL a b
 | _,_=>0
theorem cmpL_nil (b:List Int):cmpL [] b=0:=by cases b<;>rfl
theorem cmpL_drop {a b:List Int} {i:Nat} {x y:Int} (hx:a[i]?=some x) (hy:b[i]?=some y):cmpL (a.drop i) (b.drop i)=if cmpI x y≠0 then cmpI x y else cmpL (a.drop (i+1)) (b.drop (i+1)):=by
 obtain ⟨h1,rfl⟩:=List.getElem?_eq_some_iff.1 hx
 obtain ⟨h2,rfl⟩:=List.getElem?_eq_some_iff.1 hy
 rw [List.drop_eq_getElem_cons h1,List.drop_eq_getElem_cons h2,cmpL]
theorem cmpS_L (x y:S):cmpS x y=if cmpI x.port y.port≠0 then cmpI x.port y.port else cmpL [x.p0,x.p1,x.p2,x.p3] [y.p0,y.p1,y.p2,y.p3]:=by
 unfold cmpS
 simp only [cmpL]
 repeat' split
 all_goals first | rfl | omega
end Po
theorem pS (F:Heap) (v w:Value) (a b:List Int) (hv:Po.IRow F v a) (hw:Po.IRow F w b) (hl:a.length=b.length) (hn:a.length≤1000) :
  Qz Tryz.prog 74 [.hs v a.length,.hs w b.length] [hpB F] fun r m=>r = .int .i64 (Po.cmpL a b)∧m=[hpB F]:=by
 refine Qz.fits (K:=fun r m=>r = .int .i64 (Po.cmpL a b)∧Qw m [hpB F]) ?_ fun r m' h=>⟨r,_,rfl,h.2,h.1,rfl⟩
 have hok:=hv.ok
 have hok2:=hw.ok
 refine aB Tryz.func74 rfl (by decide) ?_
 repeat' first|(refine sxZ ?_;try clear hK K)|refine sxW ?_ ?_<;>intro _|(intro K hK _;conv=>whnf)
 refine aE (α:=Nat) (fun i=>i≤a.length∧Po.cmpL a b=Po.cmpL (a.drop i) (b.drop i)) (fun i=>[.k,.k,.k,.k,.set (.int .i64 0),.d,.d,.d,.d,.k,.k,.set (.int .i64 i),.d,.d,.d,.d,.d,.d,.d,.d,.d,.d,.d,.d,.d,.d,.d,.d,.d,.d,.d,.k,.k,.k,.k,.k]) (fun _=>[]) (fun i=>a.length - i) 0 ⟨Nat.zero_le _,rfl⟩ ?_ (Qw.eq rfl) ?_
 ·exact aD
 (intro i ⟨hi,he⟩;intro K hK;(conv=>whnf);refine hK _ _ ?_;clear hK K)
 by_cases hlt:i<a.length
 ·have hx:a[i]?=some a[i]:=List.getElem?_eq_getElem hlt
  have hy:b[i]?=some (b[i]'(by omega)):=List.getElem?_eq_getElem (by omega)
  have c0:=hv.at1 hx
  have c1:=hw.at1 hy
  rw [Po.cmpL_drop hx hy] at he
  generalize a[i]=x at *
  generalize (b[i]'(by omega))=y at *
  have cc:=dl x y
  generalize Po.cmpI x y=c at *
  by_cases hc:c=0
  ·rw [if_neg (by omega)] at he
   repeat' first|(intro K hK;(with_reducible refine gC ?_);refine cP cc ?_)|(refine sxZ ?_;try clear hK K)|refine sxW ?_ ?_<;>intro _|(intro K hK _;conv=>whnf)
   all_goals first | (exfalso;omega) | skip
   all_goals
    refine aC (i+1) ⟨hlt,he⟩ (by omega) ?_ (Qw.pre 1 rfl)
    exact aD
  ·rw [if_pos hc] at he
   rw [he]
   repeat' first|(intro K hK;(with_reducible refine gC ?_);refine cP cc ?_)|(refine sxZ ?_;try clear hK K)|refine sxW ?_ ?_<;>intro _|(intro K hK _;conv=>whnf)
   all_goals first | (exfalso;omega) | exact ⟨rfl,Qw.pre 1 rfl⟩
 ·obtain rfl:i=a.length:=by omega
  rw [List.drop_length,Po.cmpL_nil] at he
  rw [he]
  repeat' first|(refine sxZ ?_;try clear hK K)|refine sxW ?_ ?_<;>intro _|(intro K hK _;conv=>whnf)
  all_goals first | (exfalso;omega) | exact ⟨rfl,Qw.pre 1 rfl⟩
theorem oU (t:TypeId) (v:Value) (a b:Int):Qz Tryz.prog 72 [.sl 0 v 2] [⟨addrOf v,[.int .i64 a,.int .i64 b],.row v t 1 2⟩] fun r m=>r = .int .i64 (if a≠0 then a else b)∧m=[⟨addrOf v,[.int .i64 a,.int .i64 b],.row v t 1 2⟩]:=by
 refine aB Tryz.func72 rfl (by decide) ?_
 by_cases ha:a=0
 ·rw [if_neg (by omega)]
  by_cases hb:b=0
  ·repeat' first|((with_reducible refine gX ?_);with_reducible refine bQ 4 ?_)|(refine sxZ ?_;try clear hK K)|refine sxW ?_ ?_<;>intro _|(intro K hK _;conv=>whnf)
   all_goals first | (exfalso;omega) | exact ⟨by rw [hb],rfl⟩
  ·repeat' first|((with_reducible refine gX ?_);with_reducible refine bQ 4 ?_)|(refine sxZ ?_;try clear hK K)|refine sxW ?_ ?_<;>intro _|(intro K hK _;conv=>whnf)
   all_goals first | (exfalso;omega) | exact ⟨rfl,rfl⟩
 ·rw [if_pos ha]
  repeat' first|((with_reducible refine gX ?_);with_reducible refine bQ 4 ?_)|(refine sxZ ?_;try clear hK K)|refine sxW ?_ ?_<;>intro _|(intro K hK _;conv=>whnf)
  all_goals first | (exfalso;omega) | exact ⟨rfl,rfl⟩
namespace Po
theorem part_row {F:Heap} {b:Nat} {x:S} (h:CellsF F ⟨b,0,.none⟩ 0 x.vs):IRow F (.slice (some ((⟨b,0,.none⟩:Addr).add 1)) 4 4) [x.p0,x.p1,x.p2,x.p3]:=by
 refine ⟨⟨some ((⟨b,0,.none⟩:Addr).add 1),4,rfl,Nat.le_refl _,fun e=>by cases e⟩,fun i y hy=>?_⟩
 obtain ⟨_,h1,h2,h3,h4,_⟩:=h
 refine ⟨[.int .i64 y],rfl,rfl,?_,trivial⟩
 match i,hy with
 | 0,hy=>cases hy;exact h1
 | 1,hy=>cases hy;exact h2
 | 2,hy=>cases hy;exact h3
 | 3,hy=>cases hy;exact h4
 | n+4,hy=>simp at hy
end Po
theorem nC (x y:Po.S):Qz Tryz.prog 36 [.agg x.av,.agg y.av] [hpB noHeap] fun r _=>r = .int .i64 (Po.cmpS x y):=by
 refine Qz.fits (K:=fun r m=>r = .int .i64 (Po.cmpS x y)) ?_ fun r m' h=>⟨r,_,rfl,Qw.eq rfl,h⟩
 have c0:=dl x.port y.port
 have k1:∀ b1 b2:Nat,Qz Tryz.prog 74 [.raw (.slice (some ((⟨b1,0,none⟩:Addr).add 1)) 4 4),.raw (.slice (some ((⟨b2,0,none⟩:Addr).add 1)) 4 4)] [hpB noHeap,⟨⟨b1,0,none⟩,x.av,.var 48⟩,⟨⟨b2,0,none⟩,y.av,.var 48⟩] fun r m=>r = .int .i64 (Po.cmpL [x.p0,x.p1,x.p2,x.p3] [y.p0,y.p1,y.p2,y.p3])∧m=[hpB noHeap,⟨⟨b1,0,none⟩,x.av,.var 48⟩,⟨⟨b2,0,none⟩,y.av,.var 48⟩]:=fun b1 b2 =>
  Qz.keep (pS (addF (addF noHeap ⟨b1,0,none⟩ (denL x.av)) ⟨b2,0,none⟩ (denL y.av)) (.slice (some ((⟨b1,0,none⟩:Addr).add 1)) 4 4) (.slice (some ((⟨b2,0,none⟩:Addr).add 1)) 4 4) [x.p0,x.p1,x.p2,x.p3] [y.p0,y.p1,y.p2,y.p3]
   (aI.mono addF.old (fun _ _ h=>h) (Po.part_row addF.new)) (Po.part_row addF.new) rfl (by simp)) rfl (Qw.freezeVar.trans Qw.freezeVar) rfl fun r mL' h=>⟨r,rfl,h.1,rfl⟩
 rw [Po.cmpS_L]
 generalize Po.cmpL [x.p0,x.p1,x.p2,x.p3] [y.p0,y.p1,y.p2,y.p3]=c2 at *
 generalize Po.cmpI x.port y.port=c1 at *
 have co:∀ b:Nat,Qz Tryz.prog 72 [.sl 0 (.slice (some ⟨b,0,none⟩) 2 2) 2] [⟨⟨b,0,none⟩,[.int .i64 c1,.int .i64 c2],.row (.slice (some ⟨b,0,none⟩) 2 2) 3 1 2⟩] fun r m=>r = .int .i64 (if c1≠0 then c1 else c2)∧m=[⟨⟨b,0,none⟩,[.int .i64 c1,.int .i64 c2],.row (.slice (some ⟨b,0,none⟩) 2 2) 3 1 2⟩]:=fun b=>oU _ _ c1 c2
 refine aB Tryz.func36 rfl (by decide) ?_
 obtain ⟨a0,a,b,c,d⟩:=x
 obtain ⟨a0',a',b',c',d'⟩:=y
 unfold Po.S.av at *
 simp only at *
 repeat' first|(intro K hK;(with_reducible refine gC ?_);first|refine cP c0 ?_|refine cS [0,1,2] (k1 _ _) ?_|refine cS [3] (co _) ?_)|(refine aJ [] ?_;try clear hK K)|refine sxW ?_ ?_<;>intro _|refine aK ?_ ?_|(intro K hK _;conv=>whnf)
 all_goals rfl
theorem Fr.grow {w w':World} (h:Fr (fun _=>False) w w') (hd:w.drawn≤w'.drawn):∃ (q:Nat) (os:Array Obj),w'=Go.Sort.grow (w.drewN q) os:=by
 obtain ⟨hp,tp,dr,os,out⟩:=w
 obtain ⟨hp',tp',dr',os',out'⟩:=w'
 obtain ⟨h1,h2,h3,h4,h5⟩:=h
 simp only at h1 h2 h3 h4 h5 hd
 subst h1 h2 h3
 refine ⟨dr' - dr,hp'.extract hp.size hp'.size,?_⟩
 have e:hp++hp'.extract hp.size hp'.size=hp':=by
  apply Array.ext
  ·simp;omega
  ·intro i hi hj
   by_cases hlt:i<hp.size
   ·rw [Array.getElem_append_left hlt]
    have:=h5 i hlt (fun h=>h)
    rw [Array.getElem?_eq_getElem hj,Array.getElem?_eq_getElem hlt] at this
    injection this with this
    exact this.symm
   ·rw [Array.getElem_append_right (by omega)]
    simp only [Array.getElem_extract]
    congr 1
    omega
 unfold Go.Sort.grow World.drewN
 simp only [World.mk.injEq]
 exact ⟨e.symm,trivial,by omega,trivial,trivial⟩
theorem gG (W:World):Qx [hpB noHeap] W:=⟨fun k hk=>by
 rw [List.mem_singleton] at hk
 subst hk
 exact ⟨rfl,fun a u h=>h.elim,fun b o h=>h.elim⟩,by simp⟩
theorem nB (x y:Po.S) (W:World):Calls Tryz.prog 36 #[.agg x.vs.toArray,.agg y.vs.toArray] W fun e w'=>e = .returned (.int .i64 (Po.cmpS x y))∧∃ (q:Nat) (os:Array Obj),w'=Go.Sort.grow (W.drewN q) os:=by
 have h:=(aN.1 (nC x y)).2 W (gG W)
 have h:=kw h fun e w' ⟨r,m',_,he,_⟩=>⟨_,he⟩
 refine h.mono fun e w' ⟨⟨r,m',hr,he,_,hf,_⟩,hd⟩=>?_
 subst hr
 refine ⟨he,Fr.grow ⟨hf.os,hf.tape,hf.output,hf.size,fun k hk _=>hf.block k hk fun ⟨k',h1,h2,_⟩=>?_⟩ hd⟩
 rw [List.mem_singleton] at h1
 subst h1
 cases h2
end Go.Proofs.YtmehinfgdcmmjaaGreatDoor
namespace Go.Proofs
open Go.Shelf
def Tryz.sortSent_ren:Go.Shelf.Ren:=⟨fun | 6=>70 | 15=>114 | 14=>113 | 28=>166 | 29=>167 | 20=>158 | 21=>159 | 22=>160 | 23=>161 | 24=>162 | 25=>163 | 26=>164 | 27=>165 | 46=>200 | 47=>201 | 48=>202 | 49=>203 | 50=>204 | 57=>232 | n=>n,fun | 22=>44 | 24=>48 | 25=>95 | 3=>3 | 39=>172 | 0=>0 | 53=>235 | 55=>237 | 4=>4 | 46=>228 | 45=>227 | 50=>232 | 5=>5 | 9=>9 | 66=>263 | 70=>267 | 76=>287 | 77=>288 | n=>n,fun | n=>n⟩
theorem Tryz.sortSent:Go.Proofs.SlLaysF0.n6 Tryz.prog Tryz.sortSent_ren:={
 mixed:=by kernel_rfl
 f6:=⟨Tryz.f70.name,by decide,Tryz.func70.trans (congrArg some (by kernel_rfl))⟩
 f14:=⟨Tryz.f113.name,by decide,Tryz.func113.trans (congrArg some (by kernel_rfl))⟩
 f15:=Tryz.func114.trans (congrArg some (by kernel_rfl))
 f20:=⟨Tryz.f158.name,by decide,Tryz.func158.trans (congrArg some (by kernel_rfl))⟩
 f21:=⟨Tryz.f159.name,by decide,Tryz.func159.trans (congrArg some (by kernel_rfl))⟩
 f22:=⟨Tryz.f160.name,by decide,Tryz.func160.trans (congrArg some (by kernel_rfl))⟩
 f23:=⟨Tryz.f161.name,by decide,Tryz.func161.trans (congrArg some (by kernel_rfl))⟩
 f24:=⟨Tryz.f162.name,by decide,Tryz.func162.trans (congrArg some (by kernel_rfl))⟩
 f25:=⟨Tryz.f163.name,by decide,Tryz.func163.trans (congrArg some (by kernel_rfl))⟩
 f26:=⟨Tryz.f164.name,by decide,Tryz.func164.trans (congrArg some (by kernel_rfl))⟩
 f27:=⟨Tryz.f165.name,by decide,Tryz.func165.trans (congrArg some (by kernel_rfl))⟩
 f28:=Tryz.func166.trans (congrArg some (by kernel_rfl))
 f29:=Tryz.func167.trans (congrArg some (by kernel_rfl))
 f46:=⟨Tryz.f200.name,by decide,Tryz.func200.trans (congrArg some (by kernel_rfl))⟩
 f47:=Tryz.func201.trans (congrArg some (by kernel_rfl))
 f48:=Tryz.func202.trans (congrArg some (by kernel_rfl))
 f49:=⟨Tryz.f203.name,by decide,Tryz.func203.trans (congrArg some (by kernel_rfl))⟩
 f50:=⟨Tryz.f204.name,by decide,Tryz.func204.trans (congrArg some (by kernel_rfl))⟩
 f57:=⟨Tryz.f232.name,by decide,Tryz.func232.trans (congrArg some (by kernel_rfl))⟩
 t0:=Tryz.underlying0
 a0:=Tryz.isAgg0
 z0:=Tryz.sizeOf0
 v0:=Tryz.zeroValue0
 t3:=Tryz.underlying3
 a3:=Tryz.isAgg3
 z3:=Tryz.sizeOf3
 v3:=Tryz.zeroValue3
 t4:=Tryz.underlying4
 a4:=Tryz.isAgg4
 z4:=Tryz.sizeOf4
 v4:=Tryz.zeroValue4
 t5:=Tryz.underlying5
 a5:=Tryz.isAgg5
 z5:=Tryz.sizeOf5
 v5:=Tryz.zeroValue5
 t9:=Tryz.underlying9
 a9:=Tryz.isAgg9
 z9:=Tryz.sizeOf9
 v9:=Tryz.zeroValue9
 t22:=Tryz.underlying44
 a22:=Tryz.isAgg44
 z22:=Tryz.sizeOf44
 v22:=Tryz.zeroValue44
 t25:=Tryz.underlying95
 a25:=Tryz.isAgg95
 z25:=Tryz.sizeOf95
 v25:=Tryz.zeroValue95
 t39:=Tryz.underlying172
 a39:=Tryz.isAgg172
 z39:=Tryz.sizeOf172
 v39:=Tryz.zeroValue172
 t45:=Tryz.underlying227
 a45:=Tryz.isAgg227
 z45:=Tryz.sizeOf227
 v45:=Tryz.zeroValue227
 t46:=Tryz.underlying228
 a46:=Tryz.isAgg228
 z46:=Tryz.sizeOf228
 v46:=Tryz.zeroValue228
 t50:=Tryz.underlying232
 a50:=Tryz.isAgg232
 z50:=Tryz.sizeOf232
 v50:=Tryz.zeroValue232
 t53:=Tryz.underlying235
 a53:=Tryz.isAgg235
 z53:=Tryz.sizeOf235
 v53:=Tryz.zeroValue235
 t55:=Tryz.underlying237
 a55:=Tryz.isAgg237
 z55:=Tryz.sizeOf237
 v55:=Tryz.zeroValue237
 t66:=Tryz.underlying263
 a66:=Tryz.isAgg263
 z66:=Tryz.sizeOf263
 v66:=Tryz.zeroValue263
 t70:=Tryz.underlying267
 a70:=Tryz.isAgg267
 z70:=Tryz.sizeOf267
 v70:=Tryz.zeroValue267
 t76:=Tryz.underlying287
 a76:=Tryz.isAgg287
 z76:=Tryz.sizeOf287
 v76:=Tryz.zeroValue287
 t77:=Tryz.underlying288
 a77:=Tryz.isAgg288
 z77:=Tryz.sizeOf288
 v77:=Tryz.zeroValue288 }
end Go.Proofs
namespace Go.Proofs.YtmehinfgdcmmjaaGreatDoor
open Go.Sx
set_option maxRecDepth 20000
set_option maxHeartbeats 4000000
set_option linter.unusedVariables false
section
open Go.Sort Go.Proofs Go.RowKit
theorem dU {w:World} {g:Nat} {cur:Array Value} {e:TypeId} {ss:List Value} (hb:w.heap[g]?=some (.cells cur e (0,0))) (ht:cur.toList.take ss.length=ss):Holds id w g 0 ss.toArray:=by
 intro j hj
 have hj':j<ss.length:=by simpa using hj
 refine ⟨?_,by simp [World.frozen?,hb]⟩
 have h1:(cur.toList.take ss.length)[j]?=ss[j]?:=by rw [ht]
 rw [List.getElem?_take_of_lt hj'] at h1
 simp only [World.cell?,hb,Nat.zero_add]
 simp only [Option.isSome_none,Bool.false_eq_true,if_false]
 rw [← Array.getElem?_toList,h1]
 simp [hj']
theorem ef {w:World} {g n:Nat} {os:Array Obj} {cur:Array Value} {e:TypeId} {fr:Nat × Nat} (d:Array Value) (hb:w.heap[g]?=some (.cells cur e fr)) :
  (grow (putRow id (Sort.ahead w n) g 0 d) os).heap[g]?=some (.cells (putCells id 0 d cur) e fr):=by
 have hg:g<w.heap.size:=(Array.getElem?_eq_some_iff.1 hb).1
 rw [heap_grow_old _ _ (by simpa using hg)]
 simp [putRow,mapBlock,Sort.ahead,Array.getElem?_modify,hb,onCells]
theorem dV {w:World} {g n:Nat} {os:Array Obj} (d:Array Value):w.grownBy (grow (putRow id (Sort.ahead w n) g 0 d) os) (some g):=by
 refine ⟨rfl,rfl,rfl,by simp,fun k hk hne=>?_⟩
 rw [heap_grow_old _ _ (by simpa using hk)]
 have:g≠k:=fun e=>hne (by rw [e])
 simp [putRow,mapBlock,Sort.ahead,Array.getElem?_modify,this]
theorem dX (cur:Array Value) (ts:List Value) (h:ts.length≤cur.size):(putCells id 0 ts.toArray cur).toList.take ts.length=ts:=by
 apply List.ext_getElem?
 intro j
 by_cases hj:j<ts.length
 ·rw [List.getElem?_take_of_lt hj,Array.getElem?_toList]
  simp [putCells,hj,show j<cur.size by omega]
 ·rw [List.getElem?_take_eq_none (by omega),List.getElem?_eq_none (by omega)]
end
namespace Po
instance:Inhabited S:=⟨⟨0,0,0,0,0⟩⟩
def savs (L:List S):List AV:=L.flatMap S.av
theorem savs_den:∀ L:List S,denL (savs L)=L.flatMap S.vs
 | []=>rfl
 | s::L=>by
  have:=savs_den L
  unfold savs at *
  rw [List.flatMap_cons,List.flatMap_cons,aS,this]
  rfl
theorem savs_len (L:List S):(savs L).length=L.length*5:=by
 induction L with
 | nil=>rfl
 | cons s L ih=>unfold savs at *;rw [List.flatMap_cons,List.length_append,ih,List.length_cons];simp [S.av];omega
theorem savs_append (L M:List S):savs (L++M)=savs L++savs M:=by unfold savs;rw [List.flatMap_append]
theorem vs_len (s:S):s.vs.length=5:=rfl
theorem flat_at:∀ (L:List S) (i j:Nat),i<L.length→j<5→(L.flatMap S.vs)[i*5+j]?=(L.getD i default).vs[j]?
 | [],i,j,hi,_=>by simp at hi
 | s::L,0,j,_,hj=>by
  rw [List.flatMap_cons,List.getElem?_append_left (by rw [vs_len];omega)]
  simp
 | s::L,i+1,j,hi,hj=>by
  rw [List.flatMap_cons,List.getElem?_append_right (by rw [vs_len];omega),vs_len,show (i+1)*5+j - 5=i*5+j by omega,flat_at L i j (by simpa using hi) hj]
  simp
theorem flat_len (L:List S):(L.flatMap S.vs).length=L.length*5:=by
 rw [← savs_den,aF,savs_len]
theorem flatK_eq (L:List S):Go.Sort.flatK S.vs 5 L.toArray=(L.flatMap S.vs).toArray:=by
 apply Array.ext
 ·rw [Go.Sort.size_flatK];simp only [List.size_toArray,flat_len]
 ·intro t h1 h2
  rw [Go.Sort.size_flatK,List.size_toArray] at h1
  have e:=Go.Sort.get_flatK S.vs 5 L.toArray t (by simpa using h1)
  rw [getElem!_pos _ t (by rw [Go.Sort.size_flatK,List.size_toArray];exact h1)] at e
  rw [e]
  have hi:t / 5<L.length:=by omega
  have hj:t % 5<5:=by omega
  have h3:=flat_at L (t / 5) (t % 5) hi hj
  rw [show t / 5*5+t % 5=t by omega] at h3
  have h4:(L.flatMap S.vs)[t]?=some ((L.flatMap S.vs)[t]'(by simpa using h2)):=List.getElem?_eq_getElem _
  rw [h4,List.getD_eq_getElem?_getD,List.getElem?_eq_getElem hi,Option.getD_some,List.getElem?_eq_getElem (by rw [vs_len];exact hj)] at h3
  injection h3 with h3
  rw [List.getElem_toArray,h3]
  have h5:L.toArray[t / 5]! = L[t / 5]:=by rw [getElem!_pos _ _ (by simpa using hi)];simp
  rw [h5,getElem!_pos _ _ (by rw [vs_len];exact hj)]
end Po
namespace Po
theorem lt_ahead (x y:S):Go.Proofs.ltOf cmpS x y=decide (ahead x y):=by
 unfold Go.Proofs.ltOf
 exact decide_eq_decide.2 (cmpS_lt x y)
theorem swoS:Go.Sort.SWO (Go.Proofs.ltOf cmpS) where
 irrefl x:=by rw [lt_ahead];exact decide_eq_false (ahead_irrefl x)
 trans x y z h1 h2:=by rw [lt_ahead,decide_eq_true_eq] at *;exact ahead_trans h1 h2
 ntrans x y z h1 h2:=by rw [lt_ahead,decide_eq_false_iff_not] at *;unfold ahead at *;omega
end Po
theorem py (v:Value) (t:TypeId) (L:List Po.S) (hl:L.length<4611686018427387904) :
  Qz Tryz.prog 70 [.sl 0 v L.length,.fn 36 [] []] [⟨addrOf v,Po.savs L,.row v t 5 L.length⟩] fun r m=>r = .tup []∧∃ L':List Po.S,L'.Perm L∧L'.Pairwise (fun x y=>¬ Po.ahead y x)∧m=[⟨addrOf v,Po.savs L',.row v t 5 L.length⟩]:=by
 rw [aN]
 refine ⟨Go.Sx.enters_of Tryz.func70 rfl (by decide),fun w hm=>?_⟩
 obtain ⟨⟨h1,h2⟩,h3⟩:=hm.holds _ (List.mem_singleton.2 rfl)
 rcases h2 with ⟨rfl,hn⟩ | ⟨g,cap,cur,rfl,_,hg,hle,hcap,hsz,htk⟩
 ·have e:L=[]:=List.length_eq_zero_iff.1 hn
  subst e
  refine (AnyF.slices_SortFunc_none Tryz.sortSent none 0 _ w).mono fun e w' ⟨he,hw⟩=>?_
  subst hw
  exact ⟨.tup [],_,⟨rfl,[],List.Perm.refl _,List.Pairwise.nil,rfl⟩,he,hm,Fr.refl _ _,Fresh.self _ _⟩
 ·rw [Po.savs_den] at htk
  have hlt:g<w.heap.size:=(Array.getElem?_eq_some_iff.1 hg).1
  have hH:Go.Sort.HoldsK Po.S.vs 5 w g 0 L.toArray:=by
   unfold Go.Sort.HoldsK
   rw [Po.flatK_eq]
   exact dU hg (by rw [Po.flat_len];exact htk)
  have eg:∀ args w,(callFunc 36 args).run Tryz.prog w = .ok (.enter 36 args) w:=Go.Sx.enters_of Tryz.func36 rfl (by decide)
  have hcmp:Go.Proofs.CmpLays Tryz.prog 36 #[] Po.S.vs 5 Po.cmpS g 0 L.toArray.size w:=fun m os dk _ x y=>by
   simpa using nB x y _
  refine (AnyQ.slices_SortFunc Tryz.sortSent 5 (fun w=>Go.Sx.run_isAgg (b:=true) (by kernel_rfl) w) (fun w=>Go.Sx.run_sizeOf (s:=5) (by kernel_rfl) w) Po.S.vs (fun _=>rfl) (fun x v hv=>by simp [Po.S.vs] at hv;rcases hv with rfl | rfl | rfl | rfl | rfl<;>rfl) Po.cmpS Po.swoS 36 #[] g 0 cap L.toArray w eg hcmp hH hlt (by simpa using hl)).mono fun e w' ⟨he,d',n,os,hp,hs,hw⟩=>?_
  have hperm:d'.toList.Perm L:=by
   have h4:=hp.2.2
   have e1:d'.extract 0 L.toArray.size=d':=by
    have:=hp.1
    rw [← this,Array.extract_size]
   rw [e1] at h4
   simpa using h4
  have hsort:d'.toList.Pairwise (fun x y=>¬ Po.ahead y x):=by
   rw [List.pairwise_iff_getElem]
   intro i j hi hj hij
   have hsz2:=hp.1
   have h4:=hs i j (Nat.zero_le _) hij (by rw [← hsz2];simpa using hj)
   rw [Po.lt_ahead,decide_eq_false_iff_not] at h4
   rw [getElem!_pos _ j (by simpa using hj),getElem!_pos _ i (by simpa using hi)] at h4
   simpa using h4
  have hlen:d'.toList.length=L.length:=hperm.length_eq
  have hw':w'=Go.Sort.grow (Go.Sort.putRow id (Go.Sort.ahead w n) g 0 (d'.toList.flatMap Po.S.vs).toArray) os:=by
   rw [hw]
   unfold Go.Proofs.sortWorldK Go.Sort.putRowK
   rw [show d'=d'.toList.toArray from rfl,Po.flatK_eq]
  have hgr:=dV (w:=w) (g:=g) (n:=n) (os:=os) (d'.toList.flatMap Po.S.vs).toArray
  have hhp:=ef (n:=n) (os:=os) (d'.toList.flatMap Po.S.vs).toArray hg
  rw [← hw'] at hgr hhp
  have hfl:(d'.toList.flatMap Po.S.vs).length=L.length*5:=by rw [Po.flat_len,hlen]
  have hown:w'.ownsRow 0 t 5 (.slice (some ⟨g,0,none⟩) L.length cap) L.length (denL (Po.savs d'.toList)):=by
   rw [Po.savs_den]
   exact ⟨by rw [hfl],.inr ⟨g,cap,_,rfl,Nat.zero_le _,hhp,hle,hcap,by simp [Go.Sort.putCells,hsz],by rw [← hfl];exact dX cur _ (by rw [hfl,hsz];exact Nat.mul_le_mul_right 5 hle)⟩⟩
  have hfr:=Fr.grown hgr
  refine ⟨.tup [],_,⟨rfl,d'.toList,hperm,hsort,rfl⟩,he,?_,?_,?_⟩
  ·exact hm.set (i:=0) (k:=⟨addrOf (.slice (some ⟨g,0,none⟩) L.length cap),Po.savs d'.toList,.row (.slice (some ⟨g,0,none⟩) L.length cap) t 5 L.length⟩) hfr.size rfl rfl
    (fun b hb hlt=>hfr.block b hlt fun e=>hb e) ⟨hown,rfl⟩ rfl (.inr (.inl rfl))
  ·exact ⟨hfr.os,hfr.tape,hfr.output,hfr.size,fun k hk hS=>hfr.block k hk fun e=>hS ⟨_,List.mem_singleton.2 rfl,rfl,e⟩⟩
  ·exact Fresh.set (i:=0) (Fresh.self _ _) (k:=⟨addrOf (.slice (some ⟨g,0,none⟩) L.length cap),Po.savs d'.toList,.row (.slice (some ⟨g,0,none⟩) L.length cap) t 5 L.length⟩) rfl fun b hb=>.inl ⟨_,List.mem_singleton.2 rfl,rfl,hb⟩
end Go.Proofs.YtmehinfgdcmmjaaGreatDoor
namespace Go.Sx
set_option linter.unusedVariables false
open Go.RowKit
section
variable {P:Program}
@[irreducible] def NY (P:Program) (c:Code) (ds:List Deferred) (sl:List AV) (m:List Blk) (R:List Deferred→Post):Prop :=
 ∀ (w0:World) (W Fo:Nat→Prop) (a:Act) (w:World),Sim w0 ⟨W,Fo,ds⟩ sl m a w→c.wp P (fun e a w=>∃ ds' sl m,R ds' e sl m∧Sim w0 ⟨W,Fo,ds'⟩ sl m a w) a w
theorem eN {x y:Code} {ds:List Deferred} {sl:List AV} {m:List Blk} {R:List Deferred→Post} (h:NY P x ds sl m fun ds' e sl m=>match e with
  | .normal=>NY P y ds' sl m R
  | e=>R ds' e sl m):NY P (.seq x y) ds sl m R:=by
 unfold NY at h ⊢
 intro w0 W Fo a w hs
 refine wp_seq (wp_mono (h w0 W Fo a w hs) fun e a w hq=>?_)
 obtain ⟨ds',sl',m',h1,h2⟩:=hq
 cases e with
 | normal =>
  exact h1 w0 W Fo a w h2
 | _=>exact ⟨ds',sl',m',h1,h2⟩
theorem lV {c:Code} {ds:List Deferred} {sl:List AV} {m:List Blk} {R:List Deferred→Post} (h:codeX P c sl m (R ds)):NY P c ds sl m R:=by
 unfold NY
 intro w0 W Fo a w hs
 refine wp_mono (dm h hs) fun e a w hq=>?_
 obtain ⟨sl',m',h1,h2⟩:=hq
 exact ⟨ds,sl',m',h1,h2⟩
theorem oX {id:Nat} {t:Tmp} {g:FuncId} {caps:Array Operand} {ty1 ty2:TypeId} {p1 p2:String} {e1 e2:Array Edge} {ats:Array TypeId} {ds:List Deferred} {sl:List AV} {m:List Blk} {R:List Deferred→Post}
  (h:evLK sl caps.toList fun xs=>dstK sl (some t) (.fn g [] xs) fun sl'=>evK sl' (.tmp t) fun f=>match f with
   | .fn g first ys=>R ({ target:=.fn (.func g) (denL ys).toArray,args:=(denL first).toArray }::ds) .normal sl' m
   | _=>False) :
  NY P (.region id #[⟨some t,.makeFunc (.func g) #[] caps,ty1,p1,e1,none⟩,⟨none,.defer { callee:=.value (.tmp t),args:=#[],argTypes:=ats },ty2,p2,e2,none⟩] false) ds sl m R:=by
 unfold NY
 intro w0 W Fo a w hs
 obtain ⟨v,h1,h2⟩:=dG (P:=P) (m:=m) (op:=.makeFunc (.func g) #[] caps) (K:=fun v=>dstK sl (some t) v fun sl'=>evK sl' (.tmp t) fun f=>match f with
   | .fn g first ys=>R ({ target:=.fn (.func g) (denL ys).toArray,args:=(denL first).toArray }::ds) .normal sl' m
   | _=>False) hs.slots h
 obtain ⟨sl',h3,h4⟩:=aO h1 hs.slots
 obtain ⟨f,h5,h6⟩:=aG h4 h3
 split at h5
 ·rename_i g' first ys
  refine wp_region_list ?_
  show wpList P _ _ [_,_] a w
  unfold wpList
  rw [if_pos (by simp [Region.wanted])]
  refine .inl ?_
  unfold Oper.wp
  rw [h2 w hs.mem _ rfl,Oper.upon_value]
  unfold wpList
  rw [if_pos (by simp [Region.wanted])]
  refine .inl ?_
  unfold Oper.wp
  have:(execOp (a.put (some t) v.den).eval ⟨none,.defer { callee:=.value (.tmp t),args:=#[],argTypes:=ats },ty2,p2,e2,none⟩).run P w = .ok (.defer { target:=.fn (.func g') (denL ys).toArray,args:=(denL first).toArray }) w:=by
   simp only [execOp,resolve,Sem.run_bind,h6,AV.den,Deferred.ofValue,Sem.run_pure,Result.andThen_ok]
   simp
  rw [this,Oper.upon_defer]
  exact ⟨_,sl',m,h5,h4,by show _::(a.put (some t) v.den).defers=_;rw [bg,hs.defers],hs.mem,hs.fr,hs.fresh⟩
 ·exact h5.elim
@[irreducible] def NEnd (P:Program) (fn:Func) (ds:List Deferred) (u:FrameMode) (sl:List AV) (m:List Blk) (K:AV→List Blk→Prop):Prop :=
 ∀ (w0:World) (W Fo:Nat→Prop) (a:Act) (w:World),Sim w0 ⟨W,Fo,ds⟩ sl m a w→Leaves P fn a.tmps (fun e w'=>∃ r m',K r m'∧e = .returned r.den∧Qx m' w'∧Fr W w0 w'∧Fresh ⟨W,Fo,[]⟩ w0 m') ds u w
@[irreducible] def bF (P:Program) (g:FuncId) (args:List AV) (m:List Blk) (u:FrameMode) (K:FrameMode→List Blk→Prop):Prop :=
 (∀ (us:Array Value) (w:World),(callFunc g us).run P w = .ok (.enter g us) w) ∧
 ∀ w,Qx m w→CallsD P g (denL args).toArray u w fun e u' w'=>∃ m',K u' m'∧e = .returned (.tuple #[])∧Qx m' w'∧Fr (wrs m) w w'∧Fresh (own m) w m'
theorem ob {fn:Func} {sl:List AV} {m:List Blk} {K:AV→List Blk→Prop} (h:resK P m sl fn.results.toList fun xs=>retK xs fun r=>K r m):NEnd P fn [] .returning sl m K:=by
 unfold NEnd
 intro w0 W Fo a w hs
 obtain ⟨xs,h3,h4⟩:=am hs.slots h
 exact ⟨_,h4 w hs.mem,_,_,bR h3,rfl,hs.mem,hs.fr,hs.fresh⟩
theorem gE {fn:Func} {g:FuncId} {args first ys:List AV} {u:FrameMode} {sl:List AV} {m:List Blk} {K:AV→List Blk→Prop} (hu:u≠.run) (ha:args=first++ys)
  (h:bF P g args m u fun u' m'=>settle u' = .returning∧resK P m' sl fn.results.toList fun xs=>retK xs fun r=>K r m') :
  NEnd P fn [{ target:=.fn (.func g) (denL ys).toArray,args:=(denL first).toArray }] u sl m K:=by
 unfold NEnd
 unfold bF at h
 intro w0 W Fo a w hs
 subst ha
 refine leaves_cons (f:=g) (args:=(denL (first++ys)).toArray) hu ?_ ((h.2 w hs.mem).mono fun e u' w' hq=>?_)
 ·simp only [invoke,h.1]
  simp [aS]
 ·obtain ⟨m',⟨h1,h2⟩,rfl,h3,h4,h5⟩:=hq
  show Leaves P fn a.tmps _ [] (settle u') w'
  rw [h1]
  obtain ⟨xs,h6,h7⟩:=am hs.slots h2
  have hfr:Fr W w0 w':=hs.fr.then h4 hs.fresh.1
  refine ⟨_,h7 w' h3,_,_,bR h6,rfl,h3,hfr,⟨fun b hb=>?_,fun b hb=>?_⟩⟩
  ·rcases h5.1 b hb with h | h
   ·exact hs.fresh.1 b h
   ·exact .inr (Nat.le_trans hs.fr.size h)
  ·rcases h5.2 b hb with h | h
   ·exact hs.fresh.2 b h
   ·exact .inr (Nat.le_trans hs.fr.size h)
theorem j8 {f : FuncId} {fn : Func} {c : Code} (hf : P.funcs[f]? = some fn) (hc : fn.body = some c) (hn : (fn.name == "runtime.NumGoroutine") = false) {args : List AV} {m : List Blk} {K : AV → List Blk → Prop}
  (h:argK args fn.ntmps fun sl=>NY P c [] sl m fun ds e sl m'=>match e with
   | .normal=>NEnd P fn ds .returning sl m' K
   | .ret=>NEnd P fn ds .returning sl m' K
   | .panic ch=>NEnd P fn ds (.panicking ch) sl m' K
   | _=>False):Qz P f args m K:=by
 rw [aN]
 refine ⟨enters_of hf (by rw [hc];rfl) hn,fun w hm=>?_⟩
 obtain ⟨hlen,h⟩:=dH h
 have hsim:Sim w (own m) (args++List.replicate (fn.ntmps - args.length) .any) m { tmps:=(denL args).toArray++Array.replicate (fn.ntmps - (denL args).toArray.size) undef,defers:=[] } w :=
  ⟨dz hlen,rfl,hm,Fr.refl _ w,fun b hb=>.inl hb,fun b hb=>.inl hb⟩
 unfold NY at h
 refine calls_of_wp_defers hf hc (wp_mono (h w (wrs m) (foots m) _ w hsim) fun e a w' hq=>?_)
 obtain ⟨ds,sl',m',h1,h2⟩:=hq
 cases e with
 | normal =>
  dsimp only at h1
  unfold NEnd at h1
  have:=h1 w (wrs m) (foots m) a w' h2
  show Leaves P fn a.tmps _ a.defers .returning w'
  rw [h2.defers]
  exact this
 | ret =>
  dsimp only at h1
  unfold NEnd at h1
  have:=h1 w (wrs m) (foots m) a w' h2
  show Leaves P fn a.tmps _ a.defers .returning w'
  rw [h2.defers]
  exact this
 | panic ch =>
  dsimp only at h1
  unfold NEnd at h1
  have:=h1 w (wrs m) (foots m) a w' h2
  show Leaves P fn a.tmps _ a.defers (.panicking ch) w'
  rw [h2.defers]
  exact this
 | exit _=>exact h1.elim
 | goto _=>exact h1.elim
 | outgrown=>exact h1.elim
end
end Go.Sx
