/- A part of the proof. -/
import Derived.Test.YtmehinfgdcmmjaaGreatDoorTJ2
import Derived.Test.YtmehinfgdcmmjaaGreatDoorTJ3
import Derived.Test.YtmehinfgdcmmjaaGreatDoorProg
import Derived.Lib.Join
import Derived.Test.YtmehinfgdcmmjaaGreatDoorTSxC
import Derived.Lib.LaidTab
import Derived.MakeChecks
import Derived.Test.YtmehinfgdcmmjaaGreatDoorRows
import Derived.Maps.RangeRun
import Derived.Test.YtmehinfgdcmmjaaGreatDoorTTp1
import Derived.Test.YtmehinfgdcmmjaaGreatDoorTJ1
import Derived.Lib.ItoaLen
import Derived.Test.YtmehinfgdcmmjaaGreatDoorTJ7
import Derived.ChangeArms
namespace Go.Proofs.YtmehinfgdcmmjaaGreatDoor
open Go.Sx
set_option maxRecDepth 20000
set_option linter.unusedVariables false
namespace Po
mutual
def vals (f:Int):T→List Int
  | .mk k p a v l=>(if k=2∧a=f then [v] else [])++Pd.values f p++valsL f l
def valsL (f:Int):List T→List Int
  | []=>[]
  | x::l=>vals f x++valsL f l
end
theorem valsL_append (f:Int) (a b:List T):valsL f (a++b)=valsL f a++valsL f b:=by
  induction a with
  | nil=>rfl
  | cons p a ih=>rw [List.cons_append,valsL,valsL,ih,List.append_assoc]
theorem valsL_take (f:Int) {l:List T} {k:Nat} (h:k<l.length):valsL f (l.take (k+1))=valsL f (l.take k)++vals f l[k]:=by
  rw [List.take_add_one,List.getElem?_eq_getElem h,valsL_append]
  congr 1
  show vals f l[k]++[]=_
  simp
theorem fz:∀ l:List Int,(Pd.once l).length≤l.length
  | []=>by simp [Pd.once]
  | [x]=>by simp [Pd.once]
  | x::y::l=>by
    have:=fz (y::l)
    rw [Pd.once]
    split
    iterate 2
      · simp only [List.length_cons] at *;omega
theorem pvalues_len (f:Int) (p:Pd.T):(Pd.values f p).length≤Pd.size p:=by
  have h1:=fz ((Pd.vals f p).mergeSort fun x y=>decide (x≤y))
  rw [List.length_mergeSort] at h1
  exact Nat.le_trans h1 (Pd.vals_len f p)
mutual
theorem vals_len (f:Int):∀ x:T,(vals f x).length≤tot x
  | .mk k p a v l=>by
    have:=valsL_len f l
    have:=pvalues_len f p
    rw [vals,tot,List.length_append,List.length_append]
    split
    · simp;omega
    · simp;omega
theorem valsL_len (f:Int):∀ l:List T,(valsL f l).length≤totL l
  | []=>by simp [valsL]
  | p::l=>by have:=vals_len f p;have:=valsL_len f l;rw [valsL,totL,List.length_append];omega
end
theorem right_fits {p:Pd.T} (h:Pd.right p=true):Pd.fits p=true:=by
  unfold Pd.right at h
  simp only [Bool.and_eq_true,decide_eq_true_eq] at h
  exact h.1
mutual
theorem vals_top (f:Int):∀ x:T,fits x=true→∀ v∈vals f x,0≤v∧v≤Pd.top f
  | .mk k p a w l,h,v,hv=>by
    obtain ⟨hs,hl⟩:=fits_mk h
    rw [vals,List.mem_append,List.mem_append] at hv
    rcases hv with (hv | hv) | hv
    · split at hv
      · rename_i hk
        obtain ⟨rfl,rfl⟩:=hk
        rw [List.mem_singleton.1 hv]
        rcases hs with ⟨e,_⟩ | ⟨_,_,_,h1,_⟩ | ⟨e,_⟩ | ⟨e,_⟩
        · omega
        · exact h1
        · omega
        · omega
      · simp at hv
    · rw [Pd.values_mem] at hv
      have hr:Pd.right p=true∨none p=true:=by
        rcases hs with ⟨_,h1,_⟩ | ⟨_,h1,_⟩ | ⟨_,h1,_⟩ | ⟨_,h1,_⟩
        · exact .inl h1
        · exact .inr h1
        · exact .inr h1
        · exact .inl h1
      rcases hr with hr | hr
      · exact Pd.vals_top f p (right_fits hr) v hv
      · rw [(Pd.same_eq _ _).1 hr] at hv
        simp [noneP,Pd.vals,Pd.valsL] at hv
    · exact valsL_top f l hl v hv
theorem valsL_top (f:Int):∀ l:List T,(∀ x∈l,fits x=true)→∀ v∈valsL f l,0≤v∧v≤Pd.top f
  | [],_,v,hv=>by simp [valsL] at hv
  | x::l,h,v,hv=>by
    rw [valsL,List.mem_append] at hv
    rcases hv with hv | hv
    · exact vals_top f x (h x (by simp)) v hv
    · exact valsL_top f l (fun y hy=>h y (List.mem_cons_of_mem _ hy)) v hv
end
def values (f:Int) (x:T):List Int:=Pd.once ((vals f x).mergeSort fun x y=>decide (x≤y))
theorem values_mem (f:Int) (x:T) (v:Int):v∈values f x↔v∈vals f x:=by
  unfold values
  rw [Pd.once_mem]
  exact List.mem_mergeSort
theorem values_len (f:Int) (x:T):(values f x).length≤tot x:=by
  have h1:=fz ((vals f x).mergeSort fun x y=>decide (x≤y))
  rw [List.length_mergeSort] at h1
  exact Nat.le_trans h1 (vals_len f x)
theorem values_rising (f:Int) (x:T):(values f x).Pairwise (·<·):=by
  refine Pd.once_rising _ ?_
  have:=List.pairwise_mergeSort (le:=fun x y:Int=>decide (x≤y)) (fun a b c h1 h2=>by simp at *;omega) (fun a b=>by simp;omega) (vals f x)
  exact this.imp fun h=>by simpa using h
def asked (f:Int) (x:T) (n:Nat):List Int:=((List.range n).filter fun (v:Nat)=>decide ((v:Int)∈vals f x)).map fun (v:Nat)=>(v:Int)
theorem asked_next (f:Int) (x:T) (n:Nat):asked f x (n+1)=asked f x n++(if (n:Int)∈vals f x then [(n:Int)] else []):=by
  unfold asked
  rw [List.range_succ,List.filter_append,List.map_append]
  congr 1
  by_cases h:(n:Int)∈vals f x
  · simp [h]
  · simp [h]
theorem asked_mem (f:Int) (x:T) (n:Nat) (v:Int):v∈asked f x n↔(0≤v∧v<n)∧v∈vals f x:=by
  unfold asked
  simp only [List.mem_map,List.mem_filter,List.mem_range,decide_eq_true_eq]
  constructor
  · rintro ⟨a,⟨h1,h2⟩,rfl⟩
    exact ⟨by omega,h2⟩
  · rintro ⟨⟨h0,h1⟩,h2⟩
    exact ⟨v.toNat,⟨by omega,by rw [show ((v.toNat:Nat):Int)=v by omega];exact h2⟩,by omega⟩
theorem asked_rising (f:Int) (x:T):∀ n,(asked f x n).Pairwise (·<·)
  | 0=>by simp [asked]
  | n+1=>by
    rw [asked_next]
    refine List.pairwise_append.2 ⟨asked_rising f x n,by split<;>simp,fun a ha b hb=>?_⟩
    have h1:=(asked_mem f x n a).1 ha
    split at hb
    · rw [List.mem_singleton.1 hb];omega
    · simp at hb
theorem asked_len (f:Int) (x:T) (n:Nat):(asked f x n).length≤n:=by
  unfold asked
  rw [List.length_map]
  exact Nat.le_trans (List.length_filter_le _ _) (by simp)
theorem asked_values (f:Int) (x:T) (h:fits x=true):asked f x ((Pd.top f).toNat+1)=values f x:=by
  refine Pd.rising_eq _ _ (asked_rising f x _) (values_rising f x) fun v=>?_
  rw [asked_mem,values_mem]
  have:=Pd.top_nonneg f
  exact ⟨fun h=>h.2,fun hv=>⟨by have:=vals_top f x h v hv;omega,hv⟩⟩
end Po
open Go.Sx
set_option maxRecDepth 20000
set_option linter.unusedVariables false
namespace Po
def zero:T:=.mk 0 noneP 0 0 []
mutual
def spec (sw:Int):T→T
  | .mk k p f v l=>if k=5∧(Pd.cut sw p).k≤2 then (specL sw l)[((Pd.cut sw p).k - 1).toNat]?.getD zero else .mk k (if k=1∨k=5 then Pd.cut sw p else noneP) f v (specL sw l)
def specL (sw:Int):List T→List T
  | []=>[]
  | x::l=>spec sw x::specL sw l
end
theorem specL_map (sw:Int) (l:List T):specL sw l=l.map (spec sw):=by
  induction l with
  | nil=>rfl
  | cons p l ih=>rw [specL,ih];rfl
theorem spec_mk (sw k:Int) (p:Pd.T) (f v:Int) (l:List T):spec sw (.mk k p f v l)=if k=5∧(Pd.cut sw p).k≤2 then (l.map (spec sw))[((Pd.cut sw p).k - 1).toNat]?.getD zero else .mk k (if k=1∨k=5 then Pd.cut sw p else noneP) f v (l.map (spec sw)):=by
  rw [spec.eq_def];simp only [specL_map]
theorem fits_iff {k:Int} {p:Pd.T} {f v:Int} {l:List T}:fits (.mk k p f v l)=true↔(k=1∧Pd.right p=true∧(f=0∧v=0)∧l.length=0∨k=2∧p=noneP∧(0≤f∧f≤4)∧(0≤v∧v≤Pd.top f)∧l.length=0∨(k=3∨k=4)∧p=noneP∧(f=0∧v=0)∧2≤l.length∧l.length≤8∨k=5∧Pd.right p=true∧(f=0∧v=0)∧l.length=2)∧∀ x∈l,fits x=true:=by
  have hl:fitsL l=true↔∀ x∈l,fits x=true:=by
    induction l with
    | nil=>simp [fitsL]
    | cons x l ih=>simp only [fitsL,Bool.and_eq_true,ih,List.mem_cons,forall_eq_or_imp]
  have hn:none p=true↔p=noneP:=Pd.same_eq _ _
  rw [fits,Bool.and_eq_true,hl]
  unfold shape
  rw [decide_eq_true_eq,hn]
theorem right_fits' {x:T} (h:right x=true):fits x=true:=by
  unfold right at h
  simp only [Bool.and_eq_true] at h
  exact h.1
end Po
open Go.Sx
set_option maxRecDepth 20000
set_option linter.unusedVariables false
namespace Pd
theorem mem_valsL {g v:Int} {l:List T}:v∈valsL g l↔∃ x∈l,v∈vals g x:=by
  induction l with
  | nil=>simp [valsL]
  | cons x l ih=>simp only [valsL,List.mem_append,ih,List.mem_cons,exists_eq_or_imp]
theorem fold_sub {g w k f v out d:Int} {l:List T} (hk:k=5∨k=6) (hd:d=1∨d=2) (ho:out=1∨out=2) (h:w∈vals g (fold k f v out d l)):∃ x∈l,w∈vals g x:=by
  unfold fold at h
  split at h
  · rw [vals_mk,if_neg (by omega)] at h;simp [valsL] at h
  · have hf:∀ x∈l.filter (fun x=>!decide (x.k=out)),x∈l:=fun x hx=>(List.mem_filter.1 hx).1
    split at h
    · rw [vals_mk,if_neg (by omega)] at h;simp [valsL] at h
    · rename_i x e;rw [e] at hf;exact ⟨x,hf x (by simp),h⟩
    · rename_i x y r e
      rw [e] at hf
      rw [vals_mk,if_neg (by omega),List.nil_append,mem_valsL] at h
      obtain ⟨z,hz,hw⟩:=h
      exact ⟨z,hf z hz,hw⟩
theorem cut_sub (sw g w:Int):∀ (n:Nat) (p:T),size p≤n→fits p=true→w∈vals g (cut sw p)→w∈vals g p
  | 0,p,hn,_,_=>absurd (size_pos p) (by omega)
  | n+1,⟨k,f,v,l⟩,hn,h,hw=>by
    have ih:∀ y∈l,w∈vals g (cut sw y)→w∈vals g y:=fun y hy=>cut_sub sw g w n y (by have:=size_lt (k:=k) (f:=f) (v:=v) hy;omega) ((fits_mk'.1 h).2 y hy)
    have hm:(∃ x∈l.map (cut sw),w∈vals g x)→w∈vals g (.mk k f v l):=fun ⟨x,hx,hv⟩=>by
      obtain ⟨y,hy,rfl⟩:=List.mem_map.1 hx
      rw [vals_mk,List.mem_append,mem_valsL]
      exact .inr ⟨y,hy,ih y hy hv⟩
    have hsh:=(fits_mk'.1 h).1
    by_cases h35:k=3∧f=5
    · obtain ⟨rfl,rfl⟩:=h35
      rw [cut_sw] at hw
      split at hw<;>simp [vals,valsL] at hw
    by_cases h5:k=5
    · subst h5
      rw [cut_5] at hw
      exact hm (fold_sub (.inl rfl) (.inr rfl) (.inl rfl) hw)
    by_cases h6:k=6
    · subst h6
      rw [cut_6] at hw
      exact hm (fold_sub (.inr rfl) (.inl rfl) (.inr rfl) hw)
    by_cases h4:k=4
    · subst h4
      obtain ⟨rfl,rfl,hl1⟩:f=0∧v=0∧l.length=1:=by omega
      match l,hl1 with
      | [q],_ =>
        rw [cut_4] at hw
        split at hw
        · split at hw<;>simp [vals,valsL] at hw
        · rw [vals_mk,List.mem_append,mem_valsL] at hw
          rcases hw with hw | hw
          · simp at hw
          · obtain ⟨x,hx,hv⟩:=hw
            rw [List.mem_singleton.1 hx] at hv
            exact hm ⟨_,by simp,hv⟩
    · have hl0:l=[]:=List.eq_nil_of_length_eq_zero (by omega)
      subst hl0
      rw [cut_no _ _ _ _ h35 (by omega)] at hw
      exact hw
theorem cut_size (sw:Int) (p:T) (h:fits p=true):size (cut sw p)≤size p:=(cut_facts ⟨sw,0,0,0,0,0⟩ _ p (Nat.le_refl _) h).2.1
end Pd
namespace Po
theorem size_mk (k:Int) (p:Pd.T) (f v:Int) (l:List T):size (.mk k p f v l)=1+(if k=2∨k=3∨k=4 then 0 else Pd.size p)+sizeL l:=by rw [size]
theorem deep_mk (k:Int) (p:Pd.T) (f v:Int) (l:List T):deep (.mk k p f v l)=1+deepL l:=by rw [deep]
theorem vals_mk (g k:Int) (p:Pd.T) (f v:Int) (l:List T):vals g (.mk k p f v l)=(if k=2∧f=g then [v] else [])++(Pd.values g p++valsL g l):=by rw [vals,List.append_assoc]
theorem mem_valsL {g v:Int} {l:List T}:v∈valsL g l↔∃ x∈l,v∈vals g x:=by
  induction l with
  | nil=>simp [valsL]
  | cons x l ih=>simp only [valsL,List.mem_append,ih,List.mem_cons,exists_eq_or_imp]
theorem mem_le {x:T} {l:List T} (h:x∈l):tot x≤totL l∧size x≤sizeL l∧deep x≤deepL l:=by
  induction l with
  | nil=>cases h
  | cons y l ih =>
    simp only [totL,sizeL,deepL]
    rcases List.mem_cons.1 h with rfl | h
    · omega
    · have:=ih h;omega
theorem wide_mono {a b:List T} (h:a.length=b.length) (hw:∀ (i:Nat) (x y:T),a[i]?=some x→b[i]?=some y→wide x≤wide y) :
    (∀ n m,n≤m→wideS n a≤wideS m b)∧(∀ n m,n≤m→wideU n a≤wideU m b)∧∀ n m,n≤m→wideI n a≤wideI m b:=by
  induction a generalizing b with
  | nil=>cases b with
    | nil=>exact ⟨fun n m h=>h,fun n m h=>h,fun n m h=>h⟩
    | cons y b=>simp at h
  | cons x a ih=>cases b with
    | nil=>simp at h
    | cons y b =>
      obtain ⟨h1,h2,h3⟩:=ih (b:=b) (by simpa using h) fun i u v hu hv=>hw (i+1) u v (by simpa using hu) (by simpa using hv)
      have h0:=hw 0 x y rfl rfl
      refine ⟨fun n m hnm=>?_,fun n m hnm=>?_,fun n m hnm=>?_⟩
      · rw [wideS,wideS]
        refine h1 _ _ ?_
        have:=Nat.mul_le_mul hnm h0
        omega
      · rw [wideU,wideU];exact h2 _ _ (by omega)
      · rw [wideI,wideI];exact h3 _ _ (by omega)
theorem wideI_ge:∀ (l:List T) (n:Nat),n≤wideI n l∧∀ x∈l,wide x≤wideI n l
  | [],n=>⟨Nat.le_refl _,fun x hx=>by cases hx⟩
  | y::l,n=>by
    obtain ⟨h1,h2⟩:=wideI_ge l (max n (wide y))
    rw [wideI]
    refine ⟨by omega,fun x hx=>?_⟩
    rcases List.mem_cons.1 hx with rfl | hx
    · omega
    · exact h2 x hx
theorem wide_mk (k:Int) (p:Pd.T) (f v:Int) (l:List T):wide (.mk k p f v l)=if k=3 then wideS 1 l else if k=4 then wideU 0 l else if k=5 then wideI 0 l else 1:=by rw [wide]
theorem none_vals (g:Int):Pd.values g noneP=[]:=by
  apply List.eq_nil_iff_forall_not_mem.2
  intro w hw
  rw [Pd.values_mem] at hw
  unfold noneP at hw
  rw [Pd.vals_mk] at hw
  simp [Pd.valsL] at hw
theorem spec_facts (sw:Int):∀ (n:Nat) (x:T),tot x≤n→fits x=true→fits (spec sw x)=true∧tot (spec sw x)≤tot x∧size (spec sw x)≤size x∧deep (spec sw x)≤deep x∧wide (spec sw x)≤wide x∧vals 5 (spec sw x)=[]∧∀ g w,w∈vals g (spec sw x)→w∈vals g x
  | 0,x,hn,_=>absurd (tot_pos x) (by omega)
  | n+1,⟨k,p,f,v,l⟩,hn,h=>by
    obtain ⟨hsh,hfl⟩:=fits_iff.1 h
    have ih:∀ y∈l,_:=fun y hy=>spec_facts sw n y (by have:=tot_lt (k:=k) (q:=p) (f:=f) (v:=v) hy;omega) (hfl y hy)
    have hfm:∀ y∈l.map (spec sw),fits y=true:=fun y hy=>by obtain ⟨z,hz,rfl⟩:=List.mem_map.1 hy;exact (ih z hz).1
    have htm:totL (l.map (spec sw))≤totL l∧sizeL (l.map (spec sw))≤sizeL l∧deepL (l.map (spec sw))≤deepL l:=by
      clear hn h hsh hfl hfm
      induction l with
      | nil=>simp [totL,sizeL,deepL]
      | cons y l ihl =>
        obtain ⟨h1,h2,h3⟩:=ihl fun z hz=>ih z (List.mem_cons_of_mem _ hz)
        obtain ⟨_,h4,h5,h6,_⟩:=ih y (by simp)
        simp only [List.map_cons,totL,sizeL,deepL]
        omega
    have hv5:valsL 5 (l.map (spec sw))=[]:=by
      apply List.eq_nil_iff_forall_not_mem.2
      intro w hw
      obtain ⟨x,hx,hv⟩:=mem_valsL.1 hw
      obtain ⟨z,hz,rfl⟩:=List.mem_map.1 hx
      rw [(ih z hz).2.2.2.2.2.1] at hv
      cases hv
    have hvs:∀ g w,w∈valsL g (l.map (spec sw))→w∈valsL g l:=fun g w hw=>by
      obtain ⟨x,hx,hv⟩:=mem_valsL.1 hw
      obtain ⟨z,hz,rfl⟩:=List.mem_map.1 hx
      exact mem_valsL.2 ⟨z,hz,(ih z hz).2.2.2.2.2.2 g w hv⟩
    obtain ⟨w1,w2,w3⟩:=wide_mono (a:=l.map (spec sw)) (b:=l) (by simp) fun i a b ha hb=>by
      rw [List.getElem?_map,hb] at ha
      simp only [Option.map_some,Option.some.injEq] at ha
      rw [← ha]
      exact (ih b (List.mem_of_getElem? hb)).2.2.2.2.1
    have w1:=w1 1 1 (Nat.le_refl _)
    have w2:=w2 0 0 (Nat.le_refl _)
    have w3:=w3 0 0 (Nat.le_refl _)
    rw [spec_mk]
    rcases hsh with ⟨rfl,hr,⟨rfl,rfl⟩,hl⟩ | ⟨rfl,rfl,hf1,hv1,hl⟩ | ⟨hk,rfl,⟨rfl,rfl⟩,hl1,hl2⟩ | ⟨rfl,hr,⟨rfl,rfl⟩,hl⟩
    · obtain rfl:=List.eq_nil_of_length_eq_zero hl
      have hpf:=right_fits hr
      have hsz:=Pd.cut_size sw p hpf
      rw [if_neg (fun h=>by omega),if_pos (.inl rfl),size_mk,size_mk,tot_mk,tot_mk]
      refine ⟨fits_iff.2 ⟨.inl ⟨rfl,Pd.cut_right ⟨sw,0,0,0,0,0⟩ p hr,⟨rfl,rfl⟩,rfl⟩,fun y hy=>by simp at hy⟩,by simp only [List.map_nil];omega,by simp only [List.map_nil];simp;omega,Nat.le_refl _,Nat.le_refl _,?_,fun g w hw=>?_⟩
      · rw [vals_mk,if_neg (by omega)]
        simp only [List.map_nil,valsL,List.append_nil,List.nil_append]
        apply List.eq_nil_iff_forall_not_mem.2
        intro w hw
        rw [Pd.values_mem,Pd.cut_vals sw p hpf] at hw
        cases hw
      · rw [vals_mk,if_neg (by omega)] at hw ⊢
        simp only [List.map_nil,valsL,List.append_nil,List.nil_append,Pd.values_mem] at hw ⊢
        exact Pd.cut_sub sw g w _ p (Nat.le_refl _) hpf hw
    · obtain rfl:=List.eq_nil_of_length_eq_zero hl
      rw [if_neg (fun h=>by omega),if_neg (fun h=>by omega)]
      refine ⟨h,Nat.le_refl _,Nat.le_refl _,Nat.le_refl _,Nat.le_refl _,?_,fun g w hw=>hw⟩
      rw [vals_mk,if_neg (by omega),none_vals]
      rfl
    · rw [if_neg (fun h=>by omega),if_neg (fun h=>by omega),size_mk,size_mk,tot_mk,tot_mk,deep_mk,deep_mk,wide_mk,wide_mk]
      refine ⟨fits_iff.2 ⟨.inr (.inr (.inl ⟨hk,rfl,⟨rfl,rfl⟩,by simpa using hl1,by simpa using hl2⟩)),hfm⟩,by omega,by split<;>omega,by omega,by rcases hk with rfl | rfl<;>simp<;>omega,?_,fun g w hw=>?_⟩
      · rw [vals_mk,if_neg (by omega),none_vals,hv5];rfl
      · rw [vals_mk,if_neg (by omega),none_vals] at hw ⊢
        exact hvs g w hw
    · have hpf:=right_fits hr
      have hsz:=Pd.cut_size sw p hpf
      have hk:=Pd.fits_k (Pd.cut_fits sw p hpf)
      match l,hl with
      | [a,b],_ =>
      have e1:=tot_mk 5 p 0 0 [a,b]
      have e2:=size_mk 5 p 0 0 [a,b]
      have e3:=deep_mk 5 p 0 0 [a,b]
      have e4:=wide_mk 5 p 0 0 [a,b]
      rw [if_neg (by decide),if_neg (by decide),if_pos rfl] at e4
      rw [if_neg (by decide)] at e2
      by_cases hc:(5:Int)=5∧(Pd.cut sw p).k≤2
      · rw [if_pos hc]
        have hsel:∀ y∈[a,b],fits (spec sw y)=true∧tot (spec sw y)≤tot (.mk 5 p 0 0 [a,b])∧size (spec sw y)≤size (.mk 5 p 0 0 [a,b])∧deep (spec sw y)≤deep (.mk 5 p 0 0 [a,b])∧wide (spec sw y)≤wide (.mk 5 p 0 0 [a,b])∧vals 5 (spec sw y)=[]∧∀ g w,w∈vals g (spec sw y)→w∈vals g (.mk 5 p 0 0 [a,b]):=fun y hy=>by
          obtain ⟨g1,g2,g3,g4,g5,g6,g7⟩:=ih y hy
          obtain ⟨m1,m2,m3⟩:=mem_le hy
          have m4:=(wideI_ge [a,b] 0).2 y hy
          refine ⟨g1,by omega,by omega,by omega,by omega,g6,fun g w hw=>?_⟩
          rw [vals_mk,List.mem_append,List.mem_append,mem_valsL]
          exact .inr (.inr ⟨y,hy,g7 g w hw⟩)
        by_cases hq:(Pd.cut sw p).k=1
        · rw [hq];exact hsel a (by simp)
        · rw [show (Pd.cut sw p).k=2 by omega];exact hsel b (by simp)
      · rw [if_neg hc,if_pos (.inr rfl),size_mk,tot_mk,deep_mk,wide_mk,if_neg (by decide),if_neg (by decide),if_pos rfl,if_neg (by decide),e1,e2,e3,e4]
        refine ⟨fits_iff.2 ⟨.inr (.inr (.inr ⟨rfl,Pd.cut_right ⟨sw,0,0,0,0,0⟩ p hr,⟨rfl,rfl⟩,rfl⟩)),hfm⟩,by omega,by omega,by omega,w3,?_,fun g w hw=>?_⟩
        · rw [vals_mk,if_neg (by omega),hv5,List.append_nil,List.nil_append]
          apply List.eq_nil_iff_forall_not_mem.2
          intro w hw
          rw [Pd.values_mem,Pd.cut_vals sw p hpf] at hw
          cases hw
        · rw [vals_mk,if_neg (by omega),List.nil_append,List.mem_append] at hw ⊢
          rcases hw with hw | hw
          · rw [Pd.values_mem] at hw ⊢
            exact .inl (Pd.cut_sub sw g w _ p (Nat.le_refl _) hpf hw)
          · exact .inr (hvs g w hw)
theorem spec_fits (sw:Int) (x:T) (h:fits x=true):fits (spec sw x)=true:=(spec_facts sw _ x (Nat.le_refl _) h).1
theorem spec_tot (sw:Int) (x:T) (h:fits x=true):tot (spec sw x)≤tot x:=(spec_facts sw _ x (Nat.le_refl _) h).2.1
theorem spec_right (sw:Int) (x:T) (h:right x=true):right (spec sw x)=true:=by
  unfold right at h ⊢
  simp only [Bool.and_eq_true,decide_eq_true_eq] at h ⊢
  obtain ⟨h1,_,h2,h3,h4,_⟩:=spec_facts sw _ x (Nat.le_refl _) h.1
  exact ⟨h1,by omega,by omega,by omega⟩
theorem nodup_len:∀ (a b:List Int),a.Nodup→(∀ x∈a,x∈b)→a.length≤b.length
  | [],_,_,_=>Nat.zero_le _
  | x::a,b,hn,hs=>by
    rw [List.nodup_cons] at hn
    have hx:x∈b:=hs x (by simp)
    have:=nodup_len a (b.erase x) hn.2 fun y hy=>(List.mem_erase_of_ne (fun e=>hn.1 (by rw [← e];exact hy))).2 (hs y (by simp [hy]))
    rw [List.length_erase_of_mem hx] at this
    have:=List.length_pos_of_mem hx
    rw [List.length_cons]
    omega
theorem values_nodup (f:Int) (x:T):(values f x).Nodup:=(values_rising f x).imp fun h=>by omega
theorem spec_vlen (sw f:Int) (x:T) (h:fits x=true):(values f (spec sw x)).length≤(values f x).length:=by
  refine nodup_len _ _ (values_nodup f (spec sw x)) fun w hw=>?_
  rw [values_mem] at hw ⊢
  exact (spec_facts sw _ x (Nat.le_refl _) h).2.2.2.2.2.2 f w hw
end Po
open Go.Sx
set_option maxRecDepth 20000
set_option linter.unusedVariables false
namespace Po
theorem ins_len (s:S) (l:List S):(ins s l).length≤l.length+1:=by
  induction l with
  | nil=>simp [ins]
  | cons x l ih =>
    unfold ins
    split
    · simp
    · split
      · simp
      · simp only [List.length_cons];omega
theorem both_len:∀ (b a:List S),(both a b).length≤a.length+b.length
  | [],a=>by simp [both]
  | x::b,a=>by
    have h1:=both_len b (ins x a)
    have h2:=ins_len x a
    unfold both at *
    rw [List.foldl_cons,List.length_cons]
    omega
theorem fold_len (sw:Int) (y:T) (w:Nat) (hw:∀ s,(runs sw y s).length≤w):∀ (out a:List S),(out.foldl (fun next t=>both next (runs sw y t)) a).length≤a.length+out.length*w
  | [],a=>by simp
  | x::out,a=>by
    have h1:=fold_len sw y w hw out (both a (runs sw y x))
    have h2:=both_len (runs sw y x) a
    have h3:=hw x
    rw [List.foldl_cons,List.length_cons,Nat.succ_mul]
    omega
theorem wide_pos:∀ (n:Nat) (x:T),tot x≤n→fits x=true→1≤wide x
  | 0,x,hn,_=>absurd (tot_pos x) (by omega)
  | n+1,⟨k,p,f,v,l⟩,hn,h=>by
    obtain ⟨hsh,hfl⟩:=fits_iff.1 h
    have ih:∀ y∈l,1≤wide y:=fun y hy=>wide_pos n y (by have:=tot_lt (k:=k) (q:=p) (f:=f) (v:=v) hy;omega) (hfl y hy)
    have hS:∀ (l:List T) (m:Nat),1≤m→(∀ y∈l,1≤wide y)→1≤wideS m l:=fun l=>by
      induction l with
      | nil=>intro m hm _;exact hm
      | cons y l ihl =>
        intro m hm hy
        rw [wideS]
        refine ihl _ ?_ fun z hz=>hy z (by simp [hz])
        have:=Nat.mul_le_mul hm (hy y (by simp))
        omega
    have hU:∀ (l:List T) (m:Nat),(l≠[]∨1≤m)→(∀ y∈l,1≤wide y)→1≤wideU m l:=fun l=>by
      induction l with
      | nil=>intro m hm _;exact hm.resolve_left fun h=>h rfl
      | cons y l ihl =>
        intro m hm hy
        rw [wideU]
        refine ihl _ (.inr ?_) fun z hz=>hy z (by simp [hz])
        have:=hy y (by simp)
        omega
    rw [wide_mk]
    rcases hsh with ⟨rfl,_,_,hl⟩ | ⟨rfl,_,_,_,hl⟩ | ⟨rfl | rfl,_,_,hl1,hl2⟩ | ⟨rfl,_,_,hl⟩
    · simp
    · simp
    · simp;exact hS l 1 (Nat.le_refl _) ih
    · simp;exact hU l 0 (.inl fun e=>by rw [e] at hl1;simp at hl1) ih
    · simp
      match l,hl with
      | [a,b],_ =>
        have h1:=ih a (by simp)
        have h2:=(wideI_ge [a,b] 0).2 a (by simp)
        omega
theorem wideS_ge {l:List T} (hw:∀ y∈l,1≤wide y):∀ m,1000≤m→1000≤wideS m l:=by
  induction l with
  | nil=>intro m hm;exact hm
  | cons y l ih =>
    intro m hm
    rw [wideS]
    refine ih (fun z hz=>hw z (by simp [hz])) _ ?_
    have:=Nat.mul_le_mul hm (hw y (by simp))
    omega
theorem wideU_ge {l:List T}:∀ m,1000≤m→1000≤wideU m l:=by
  induction l with
  | nil=>intro m hm;exact hm
  | cons y l ih =>
    intro m hm
    rw [wideU]
    exact ih _ (by omega)
theorem runsQ_len (sw:Int):∀ (l:List T) (out:List S) (m:Nat),(∀ y∈l,∀ s,wide y<1000→(runs sw y s).length≤wide y)→(∀ y∈l,1≤wide y)→1≤m→out.length≤m→wideS m l<1000→(runsQ sw l out).length≤wideS m l
  | [],out,m,_,_,_,ho,_=>by rw [runsQ,wideS];exact ho
  | y::l,out,m,hy,hp,hm,ho,hw=>by
    rw [wideS] at hw ⊢
    rw [runsQ]
    have hlt:m*wide y<1000:=Classical.byContradiction fun hn=>by
      have:=wideS_ge (l:=l) (fun z hz=>hp z (by simp [hz])) (min (m*wide y) 1000) (by omega)
      omega
    have hyl:wide y<1000:=Nat.lt_of_le_of_lt (Nat.le_mul_of_pos_left _ hm) hlt
    have hmin:min (m*wide y) 1000=m*wide y:=by omega
    rw [hmin] at hw ⊢
    refine runsQ_len sw l _ _ (fun z hz=>hy z (by simp [hz])) (fun z hz=>hp z (by simp [hz])) (Nat.mul_le_mul hm (hp y (by simp))) ?_ hw
    have:=fold_len sw y (wide y) (fun s=>hy y (by simp) s hyl) out []
    have h2:=Nat.mul_le_mul_right (wide y) ho
    simp only [List.length_nil,Nat.zero_add] at this
    omega
theorem runsU_len (sw:Int) (s:S):∀ (l:List T) (out:List S) (m:Nat),(∀ y∈l,wide y<1000→(runs sw y s).length≤wide y)→out.length≤m→wideU m l<1000→(runsU sw l s out).length≤wideU m l
  | [],out,m,_,ho,_=>by rw [runsU,wideU];exact ho
  | y::l,out,m,hy,ho,hw=>by
    rw [wideU] at hw ⊢
    rw [runsU]
    have hlt:m+wide y<1000:=Classical.byContradiction fun hn=>by
      have:=wideU_ge (l:=l) (min (m+wide y) 1000) (by omega)
      omega
    have hmin:min (m+wide y) 1000=m+wide y:=by omega
    rw [hmin] at hw ⊢
    refine runsU_len sw s l _ _ (fun z hz=>hy z (by simp [hz])) ?_ hw
    have h1:=both_len (runs sw y s) out
    have h2:=hy y (by simp) (by omega)
    omega
theorem runs_len (sw:Int):∀ (n:Nat) (x:T),tot x≤n→fits x=true→∀ s,wide x<1000→(runs sw x s).length≤wide x
  | 0,x,hn,_=>absurd (tot_pos x) (by omega)
  | n+1,⟨k,p,f,v,l⟩,hn,h=>fun s hw=>by
    obtain ⟨hsh,hfl⟩:=fits_iff.1 h
    have ih:∀ y∈l,∀ s,wide y<1000→(runs sw y s).length≤wide y:=fun y hy=>runs_len sw n y (by have:=tot_lt (k:=k) (q:=p) (f:=f) (v:=v) hy;omega) (hfl y hy)
    have hp:∀ y∈l,1≤wide y:=fun y hy=>wide_pos _ y (Nat.le_refl _) (hfl y hy)
    rw [wide_mk] at hw ⊢
    rw [runs_mk]
    rcases hsh with ⟨rfl,_,_,hl⟩ | ⟨rfl,_,_,_,hl⟩ | ⟨rfl | rfl,_,_,hl1,hl2⟩ | ⟨rfl,_,_,hl⟩
    · simp
      split<;>simp
    · simp
    · simp at hw ⊢
      exact runsQ_len sw l [s] 1 ih hp (Nat.le_refl _) (by simp) hw
    · simp at hw ⊢
      exact runsU_len sw s l [] 0 (fun y hy=>ih y hy s) (by simp) hw
    · simp at hw ⊢
      match l,hl with
      | [a,b],_ =>
        have h1:=(wideI_ge [a,b] 0).2 a (by simp)
        have h2:=(wideI_ge [a,b] 0).2 b (by simp)
        split
        · rw [runsA];exact Nat.le_trans (ih a (by simp) s (by omega)) h1
        · rw [runsB,runsA];exact Nat.le_trans (ih b (by simp) s (by omega)) h2
theorem runs_64 (sw:Int) (x:T) (h:right x=true) (s:S):(runs sw x s).length≤64:=by
  have hf:=right_fits' h
  unfold right at h
  simp only [Bool.and_eq_true,decide_eq_true_eq] at h
  exact Nat.le_trans (runs_len sw _ x (Nat.le_refl _) hf s (by omega)) h.2.2.2
end Po
open Go.Sx
set_option maxRecDepth 20000
set_option linter.unusedSimpArgs false
set_option linter.unusedVariables false
theorem bits_c (f:Int) (hf:0≤f∧f≤3):Qz Tryz.prog 109 [.int .i64 f] [] fun r _=>r = .int .i64 (if f=2 then 4 else 8):=by
  refine aB Tryz.func109 rfl (by decide) ?_
  have:f=0∨f=1∨f=2∨f=3:=by omega
  rcases this with rfl | rfl | rfl | rfl
  all_goals (repeat' first|(refine sxZ ?_;try clear hK K)|refine sxW ?_ ?_<;>intro _|(intro K hK _;conv=>whnf))
  all_goals rfl
theorem top_c (f:Int) (hf:0≤f∧f≤3):Qz Tryz.prog 61 [.int .i64 f] [] fun r _=>r = .int .i64 (Mt.top f):=by
  refine aB Tryz.func61 rfl (by decide) ?_
  have:f=0∨f=1∨f=2∨f=3:=by omega
  have e4:IntKind.i64.wrap (1*2 ^ min (Int.toNat 4) IntKind.i64.bits)=16:=by decide +kernel
  have e8:IntKind.i64.wrap (1*2 ^ min (Int.toNat 8) IntKind.i64.bits)=256:=by decide +kernel
  rcases this with rfl | rfl | rfl | rfl
  · (repeat' (first|(with_reducible first|(refine hK _ _ ?_;clear hK K)|(refine hA ?_;clear hA hB A B)|(refine hB ?_;clear hA hB A B)|(refine hK _ ?_;clear hK K))|((first|((with_reducible refine gC ?_);refine Qz.pureE (bits_c 0 (by decide)) ?_)|(with_reducible refine NV.eq (e8) ?_))<;>(conv=>whnf))|refine dY ?_|refine eF ?_|((with_reducible refine gX ?_);refine z34 (by kernel_rfl) (by kernel_rfl) ?_)|(refine eG ?_;intro K hK;conv=>whnf)|(refine eH ?_;intro A B hA hB;conv=>whnf)|((with_reducible first|refine NIf.dec (fun _=>?_) (fun _=>?_)|refine NIf.both (fun _=>?_) (fun _=>?_))<;>(conv=>whnf))|((intro _;skip)<;>(conv=>whnf))))
    rfl
  · (repeat' (first|(with_reducible first|(refine hK _ _ ?_;clear hK K)|(refine hA ?_;clear hA hB A B)|(refine hB ?_;clear hA hB A B)|(refine hK _ ?_;clear hK K))|((first|((with_reducible refine gC ?_);refine Qz.pureE (bits_c 1 (by decide)) ?_)|(with_reducible refine NV.eq (e8) ?_))<;>(conv=>whnf))|refine dY ?_|refine eF ?_|((with_reducible refine gX ?_);refine z34 (by kernel_rfl) (by kernel_rfl) ?_)|(refine eG ?_;intro K hK;conv=>whnf)|(refine eH ?_;intro A B hA hB;conv=>whnf)|((with_reducible first|refine NIf.dec (fun _=>?_) (fun _=>?_)|refine NIf.both (fun _=>?_) (fun _=>?_))<;>(conv=>whnf))|((intro _;skip)<;>(conv=>whnf))))
    rfl
  · (repeat' (first|(with_reducible first|(refine hK _ _ ?_;clear hK K)|(refine hA ?_;clear hA hB A B)|(refine hB ?_;clear hA hB A B)|(refine hK _ ?_;clear hK K))|((first|((with_reducible refine gC ?_);refine Qz.pureE (bits_c 2 (by decide)) ?_)|(with_reducible refine NV.eq (e4) ?_))<;>(conv=>whnf))|refine dY ?_|refine eF ?_|((with_reducible refine gX ?_);refine z34 (by kernel_rfl) (by kernel_rfl) ?_)|(refine eG ?_;intro K hK;conv=>whnf)|(refine eH ?_;intro A B hA hB;conv=>whnf)|((with_reducible first|refine NIf.dec (fun _=>?_) (fun _=>?_)|refine NIf.both (fun _=>?_) (fun _=>?_))<;>(conv=>whnf))|((intro _;skip)<;>(conv=>whnf))))
    rfl
  · (repeat' (first|(with_reducible first|(refine hK _ _ ?_;clear hK K)|(refine hA ?_;clear hA hB A B)|(refine hB ?_;clear hA hB A B)|(refine hK _ ?_;clear hK K))|((first|((with_reducible refine gC ?_);refine Qz.pureE (bits_c 3 (by decide)) ?_)|(with_reducible refine NV.eq (e8) ?_))<;>(conv=>whnf))|refine dY ?_|refine eF ?_|((with_reducible refine gX ?_);refine z34 (by kernel_rfl) (by kernel_rfl) ?_)|(refine eG ?_;intro K hK;conv=>whnf)|(refine eH ?_;intro A B hA hB;conv=>whnf)|((with_reducible first|refine NIf.dec (fun _=>?_) (fun _=>?_)|refine NIf.both (fun _=>?_) (fun _=>?_))<;>(conv=>whnf))|((intro _;skip)<;>(conv=>whnf))))
    rfl
theorem top_0:Qz Tryz.prog 61 [.int .i64 0] [] fun r _=>r = .int .i64 255:=top_c 0 (by decide)
theorem top_1:Qz Tryz.prog 61 [.int .i64 1] [] fun r _=>r = .int .i64 255:=top_c 1 (by decide)
theorem top_2:Qz Tryz.prog 61 [.int .i64 2] [] fun r _=>r = .int .i64 15:=top_c 2 (by decide)
theorem top_3:Qz Tryz.prog 61 [.int .i64 3] [] fun r _=>r = .int .i64 255:=top_c 3 (by decide)
theorem reftop_c (f:Int):Qz Tryz.prog 23 [.int .i64 f] [] fun r _=>r = .int .i64 (Mt.top f):=by
  refine aB Tryz.func23 rfl (by decide) ?_
  unfold Mt.top
  by_cases h2:f=2
  · rw [if_pos h2]
    repeat' first|(refine sxZ ?_;try clear hK K)|refine sxW ?_ ?_<;>intro _|(intro K hK _;conv=>whnf)
    rfl
  · rw [if_neg h2]
    by_cases h:f=0∨f=1∨f=3
    · rw [if_pos h]
      rcases h with h | h | h
      all_goals (repeat' first|(refine sxZ ?_;try clear hK K)|refine sxW ?_ ?_<;>intro _|(intro K hK _;conv=>whnf))
      all_goals rfl
    · rw [if_neg h]
      repeat' first|(refine sxZ ?_;try clear hK K)|refine sxW ?_ ?_<;>intro _|(intro K hK _;conv=>whnf)
      rfl
set_option maxHeartbeats 4000000 in
theorem right8_c (x:Mt.M) (hx:x.in64):Qz Tryz.prog 80 [.agg x.av] [] fun r _=>r = .bool (decide x.ok):=by
  have k0:Mt.FOk (Mt.top ((0:Nat):Int)) (x.v 0) (x.m 0)↔_:=Mt.fok_iff 255 x.v0 x.m0 (by decide) (hx.2 0 (by decide)).1.2
  have k1:Mt.FOk (Mt.top ((1:Nat):Int)) (x.v 1) (x.m 1)↔_:=Mt.fok_iff 255 x.v1 x.m1 (by decide) (hx.2 1 (by decide)).1.2
  have k2:Mt.FOk (Mt.top ((2:Nat):Int)) (x.v 2) (x.m 2)↔_:=Mt.fok_iff 15 x.v2 x.m2 (by decide) (hx.2 2 (by decide)).1.2
  have k3:Mt.FOk (Mt.top ((3:Nat):Int)) (x.v 3) (x.m 3)↔_:=Mt.fok_iff 255 x.v3 x.m3 (by decide) (hx.2 3 (by decide)).1.2
  refine aB Tryz.func80 rfl (by decide) ?_
  repeat' first|((try intro K hK);(with_reducible refine gC ?_);first|refine cP top_0 ?_|refine cP top_1 ?_|refine cP top_2 ?_|refine cP top_3 ?_)|((with_reducible refine gX ?_);with_reducible refine bQ 5 ?_)|(refine sxZ ?_;try clear hK K)|refine sxW ?_ ?_<;>intro _|(intro K hK _;conv=>whnf)
  all_goals first
    | (refine boolT ?_
       exact ⟨⟨by omega,by omega⟩,fun f hf=>by
        match f with
        | 0=>exact k0.2 ⟨by omega,by omega,by omega,by assumption⟩
        | 1=>exact k1.2 ⟨by omega,by omega,by omega,by assumption⟩
        | 2=>exact k2.2 ⟨by omega,by omega,by omega,by assumption⟩
        | 3=>exact k3.2 ⟨by omega,by omega,by omega,by assumption⟩
        | (k+4)=>exact absurd hf (by omega)⟩)
    | (refine boolF fun h=>?_
       have e4:=h.1
       obtain ⟨e01,e02,e03,e0⟩:=k0.1 (h.2 0 (by decide))
       obtain ⟨e11,e12,e13,e1⟩:=k1.1 (h.2 1 (by decide))
       obtain ⟨e21,e22,e23,e2⟩:=k2.1 (h.2 2 (by decide))
       obtain ⟨e31,e32,e33,e3⟩:=k3.1 (h.2 3 (by decide))
       clear k0 k1 k2 k3 hx h
       first | contradiction | omega)
open Go.Sx
set_option maxRecDepth 20000
set_option linter.unusedSimpArgs false
set_option linter.unusedVariables false
set_option linter.unusedVariables false
theorem all4 {p:Nat→Prop}:(∀ f,f<4→p f)↔p 0∧p 1∧p 2∧p 3:=by
  constructor
  · exact fun h=>⟨h 0 (by decide),h 1 (by decide),h 2 (by decide),h 3 (by decide)⟩
  · rintro ⟨h0,h1,h2,h3⟩ f hf
    match f with
    | 0=>exact h0
    | 1=>exact h1
    | 2=>exact h2
    | 3=>exact h3
    | (k+4)=>exact absurd hf (by omega)
open Go.Sx
set_option maxRecDepth 20000
set_option linter.unusedSimpArgs false
set_option linter.unusedVariables false
deriving instance DecidableEq for Mt.N
theorem any_c:Qz Tryz.prog 60 [] [] fun r _=>r = .agg [.int .i64 (-1),.int .i64 0,.int .i64 0,.int .i64 0,.int .i64 0,.int .i64 0,.int .i64 0,.int .i64 0,.int .i64 0]:=by
  refine aB Tryz.func60 rfl (by decide) ?_
  repeat' first|(refine sxZ ?_;try clear hK K)|refine sxW ?_ ?_<;>intro _|(intro K hK _;conv=>whnf)
  rfl
open Go.Sx
set_option maxRecDepth 20000
open Go.Sx
def TabF (F:Heap):Prop:=∃ t fr,F.o 0 (.cells (Lib.pow10Tab.map fun z=>Value.int .u64 z).toArray t fr)
theorem TabF.mono {F G:Heap} (h:F.le G) (hF:TabF F):TabF G:=by
  obtain ⟨t,fr,h1⟩:=hF
  exact ⟨t,fr,h.o _ _ h1⟩
theorem Qx.heapO {F:Heap} {w:World} (h:Qx [hpB F] w) {b:Nat} {o:Obj} (ho:F.o b o):w.heap[b]?=some o :=
  (h.holds (hpB F) (by simp)).2.2 b o ho
theorem tab_is {F : Heap} (hF : TabF F) {w : World} (h : Qx [hpB F] w) : Lib.TabIs Tryz.prog w "internal/strconv.uint64pow10" .u64 Lib.pow10Tab := by
  obtain ⟨t,fr,h1⟩:=hF
  have h2:=Qx.heapO h h1
  have hg : Tryz.prog.globalNamed "internal/strconv.uint64pow10" = some 0 := by kernel_rfl
  unfold Lib.TabIs World.var?
  rw [hg]
  simp only [Option.bind_some,h2]
theorem itoa_c (F:Heap) (hF:TabF F) (n:Int) (hn : -9223372036854775808≤n∧n≤9223372036854775807):Qz Tryz.prog 51 [.int .i64 n] [hpB F] fun r m=>r = .str (Lib.itoa n)∧m=[hpB F]:=by
  refine cZ (Go.Sx.enters_of Tryz.func51 rfl (by decide)) fun w hw=>?_
  refine (Tryz.strconv_Itoa n hn.1 hn.2 w (tab_is hF hw)).mono fun e w' ⟨h1,k,os,h2⟩=>?_
  subst h2
  refine ⟨h1,rfl,rfl,rfl,by simp [Sort.grow,World.drewN],fun b hb=>?_⟩
  simp [Sort.grow,World.drewN,Array.getElem?_append_left hb]
def strV (x:List UInt8):List Value:=[.string ⟨x.toArray⟩]
theorem join_c (F:Heap) (v:Value) (l:List (List UInt8)) (sep:List UInt8) (hv:aI F 1 (fun x vs=>vs=strV x) v l) (hl:(Lib.join l sep).length≤140737488355328) (hn:l.length≤140737488355328) :
    Qz Tryz.prog 97 [.hs v l.length,.str sep] [hpB F] fun r m=>r = .str (Lib.join l sep)∧m=[hpB F]:=by
  have hen:∀ (us:Array Value) (w:World),(callFunc 97 us).run Tryz.prog w = .ok (.enter 97 us) w:=Go.Sx.enters_of Tryz.func97 rfl (by decide)
  obtain ⟨⟨A,cap,rfl,hcap,hA⟩,hat⟩:=hv
  cases l with
  | nil =>
    refine cZ hen fun w hw=>?_
    refine (Tryz.strings_Join_none A cap ⟨sep.toArray⟩ w).mono fun e w' ⟨h1,h2⟩=>?_
    subst h2
    exact ⟨h1,rfl,rfl,rfl,Nat.le_refl _,fun _ _=>rfl⟩
  | cons x l =>
    refine cZ hen fun w hw=>?_
    have hc:∀ a u,F.c a u→a.block<w.heap.size∧w.cell? a=some u:=(hw.holds (hpB F) (by simp)).2.1
    cases A with
    | none=>have:=hA rfl;simp at hcap;omega
    | some a =>
      obtain ⟨vs,rfl,_,h0⟩:=hat 0 x rfl
      have h00:=hc _ _ h0.1
      have hsp:a.spot=none:=by
        have h1:=World.cell?_spot h00.2
        simpa [addrOf,Addr.add] using h1
      obtain ⟨bk,o,sp⟩:=a
      dsimp only at hsp
      subst hsp
      have hm:((x::l).map fun y=>(⟨y.toArray⟩:ByteArray)).map (·.data.toList)=x::l:=by simp [Function.comp_def]
      have hj:=Tryz.strings_Join bk o cap ((x::l).map fun y=>⟨y.toArray⟩) ⟨sep.toArray⟩ w (fun j y hy=>by
        rw [List.getElem?_map] at hy
        cases hx:(x::l)[j]? with
        | none=>rw [hx] at hy;cases hy
        | some z =>
          rw [hx] at hy
          injection hy with hy
          subst hy
          obtain ⟨vs,rfl,_,h1⟩:=hat j z hx
          have:=(hc _ _ h1.1).2
          by_cases hj0:j=0
          · subst hj0;simpa [addrOf,Addr.add] using this
          · simpa [addrOf,Addr.add,hj0] using this) (by have:=h00.1;rw [ab] at this;exact this) (by simpa using hn) (by simpa using hcap) (by rw [hm];simpa using hl)
      rw [hm] at hj
      simp only [List.length_map] at hj
      refine hj.mono fun e w' ⟨h1,h2⟩=>?_
      exact ⟨by simpa [AV.den] using h1,h2.os,h2.tape,h2.output,h2.size,h2.block⟩
def strAV (l:List (List UInt8)):List AV:=l.map .str
theorem strAV_den (l:List (List UInt8)):denL (strAV l)=l.flatMap strV:=by
  induction l with
  | nil=>rfl
  | cons x l ih=>simp only [strAV,List.map_cons,List.flatMap_cons,strV,denL,AV.den] at *;rw [ih];rfl
theorem strAV_len (l:List (List UInt8)):(strAV l).length=l.length:=by simp [strAV]
theorem join_own (F:Heap) (v:Value) (l:List (List UInt8)) (sep:List UInt8) (t:TypeId) (m:List Blk) (hm:Qw m [hpB F,⟨addrOf v,strAV l,.row v t 1 l.length⟩]) (hl:(Lib.join l sep).length≤140737488355328) (hn:l.length≤140737488355328) (i:Nat) :
    Qz Tryz.prog 97 [.sl i v l.length,.str sep] m fun r m'=>r = .str (Lib.join l sep)∧m'=m :=
  Qz.frozen (args':=[.hs v l.length,.str sep]) strV (join_c noHeap (.slice none 0 0) [] [] aI.nil (by decide) (by decide)) rfl hm rfl (strAV_den l) (fun _ _=>rfl) fun G _ hr =>
    (join_c G v l sep hr hl hn).mono fun _ _ h=>⟨h.1,rfl⟩
theorem join_len {xs:List (List UInt8)} {sep:List UInt8} {B:Nat} (h:∀ x∈xs,x.length≤B):(Lib.join xs sep).length≤xs.length*(B+sep.length):=by
  have key:∀ r:List (List UInt8),(∀ x∈r,x.length≤B)→(Lib.joinTail sep r).length≤r.length*(B+sep.length):=by
    intro r
    induction r with
    | nil=>intro _;simp [Lib.joinTail]
    | cons y r ih =>
      intro hr
      have h1:=ih fun x hx=>hr x (List.mem_cons_of_mem _ hx)
      have h2:=hr y (by simp)
      have e:Lib.joinTail sep (y::r)=(sep++y)++Lib.joinTail sep r:=by simp [Lib.joinTail]
      rw [e,List.length_append,List.length_append,List.length_cons,Nat.add_mul,Nat.one_mul]
      omega
  cases xs with
  | nil=>simp [Lib.join,List.intercalate]
  | cons x r =>
    have h1:=key r fun y hy=>h y (List.mem_cons_of_mem _ hy)
    have h2:=h x (by simp)
    rw [Lib.join_cons,List.length_append,List.length_cons,Nat.add_mul,Nat.one_mul]
    omega
open Go.Sx
theorem laidVars_mem {P:Program} {w:World} {n:String} {d:DataW Unit}:∀ {l:List (String × DataW Unit)} {ps:List MemPlace},DataW.LaidVars P w l ps→(n,d)∈l →
    ∃ g t cs fuel p,P.globalNamed n=some g∧(P.globals[g]?).map (·.type)=some t∧w.var? P n=some cs∧DataW.trod (fun _=>()) P w 0 (fun _=>true) false fuel t cs.toList=some (d,p)
  | [],_,_,h=>by cases h
  | (n',d')::l,_,h,hm=>by
    obtain ⟨g,t,cs,fuel,p,q,h1,h2,h3,h4,h5,_⟩:=h
    rcases List.mem_cons.1 hm with e | hm
    · cases e;exact ⟨g,t,cs,fuel,p,h1,h2,h3,h4⟩
    · exact laidVars_mem h5 hm
theorem tabF_of {W:World} {l:List (String × DataW Unit)} (hp:(l.all fun x=>x.2.handleName?.isNone)=true) (h:laidMetH Tryz.prog l W)
    (hm : ("internal/strconv.uint64pow10", (Lib.tabData .u64 Lib.pow10Tab : DataW Unit)) ∈ l) : TabF (bZ W) := by
  rw [MakeChecks.laidMetH_plain _ _ _ hp] at h
  obtain ⟨ps,h1,_⟩:=h
  obtain ⟨g,t,cs,fuel,p,hg,ht,hv,hd⟩:=laidVars_mem h1 hm
  have hg' : Tryz.prog.globalNamed "internal/strconv.uint64pow10" = some 0 := by kernel_rfl
  obtain rfl:=Option.some.inj (hg'.symm.trans hg)
  have ht':(Tryz.prog.globals[0]?).map (·.type)=some 279:=by kernel_rfl
  obtain rfl:=Option.some.inj (ht'.symm.trans ht)
  have hc:=Lib.cells_of_tab Tryz.underlying279 Tryz.underlying237 (by kernel_rfl) (by kernel_rfl) hd
  unfold World.var? at hv
  rw [hg'] at hv
  simp only [Option.bind_some] at hv
  split at hv
  · rename_i cs' t fr e
    injection hv with hv
    subst hv
    refine ⟨t,fr,?_⟩
    show W.heap[0]?=_
    rw [e]
    have:cs'=(Lib.pow10Tab.map fun z=>Value.int .u64 z).toArray:=by rw [← hc]
    rw [this]
  · cases hv
open Go.Sx
set_option maxRecDepth 20000
namespace Oct
end Oct
end Go.Proofs.YtmehinfgdcmmjaaGreatDoor
namespace Go.Sx
open Go.RowKit
open Go.ChangeMaps (setBlock)
set_option linter.unusedVariables false
set_option maxRecDepth 20000
def mapL (L:List (Value × Value)):List MapEntry:=L.mapIdx fun i p=>⟨p.1,p.2,i⟩
def aV (L:List (Value × Value)):Obj:=.map (mapL L).toArray L.length
def aa (b:Nat) (L:List (Value × Value)):Blk:=⟨⟨b,0,none⟩,[],.obj (aV L)⟩
def itB (c b n:Nat) (seen:Array Nat):Blk:=⟨⟨c,0,none⟩,[],.obj (.mapIter (some b) n seen n)⟩
theorem kH (L:List (Value × Value)):(mapL L).length=L.length:=by simp [mapL]
theorem aj (L:List (Value × Value)) (i:Nat):(mapL L)[i]?=(L[i]?).map fun p=>⟨p.1,p.2,i⟩:=by simp [mapL]
section
variable {P:Program}
theorem eC {w:World} {b k:Nat} {o o':Obj} (h:w.heap[b]?=some o):(setBlock w b o').heap[k]?=if k=b then some o' else w.heap[k]?:=by
  have hlt:=(Array.getElem?_eq_some_iff.1 h).1
  simp only [setBlock]
  rw [Array.getElem?_setIfInBounds]
  by_cases e:b=k
  · subst e;simp [hlt]
  · rw [if_neg e,if_neg (fun e'=>e e'.symm)]
theorem Qx.obj {m:List Blk} {w:World} (hm:Qx m w) {j b:Nat} {o:Obj} (hj:m[j]?=some ⟨⟨b,0,none⟩,[],.obj o⟩):w.heap[b]?=some o :=
  (hm.holds _ (List.mem_of_getElem? hj)).2.2.2
theorem mA {m:List Blk} {w w1:World} {j b:Nat} {o:Obj} (o':Obj) (hm:Qx m w) (hj:m[j]?=some ⟨⟨b,0,none⟩,[],.obj o⟩) (hw1:w1=w∨w1=w.drew) :
    Qx (m.set j ⟨⟨b,0,none⟩,[],.obj o'⟩) (setBlock w1 b o')∧Fr (wrs m) w (setBlock w1 b o')∧Fresh (own m) w (m.set j ⟨⟨b,0,none⟩,[],.obj o'⟩):=by
  have hb:=hm.obj hj
  have hh:w1.heap=w.heap:=by rcases hw1 with rfl | rfl<;>rfl
  have hb1:w1.heap[b]?=some o:=by rw [hh];exact hb
  have hmem:=List.mem_of_getElem? hj
  have hsz:(setBlock w1 b o').heap.size=w.heap.size:=by simp [setBlock,hh]
  have hoth:∀ k,k≠b→(setBlock w1 b o').heap[k]?=w.heap[k]?:=fun k hk=>by rw [eC hb1,if_neg hk,hh]
  refine ⟨?_,?_,?_⟩
  · refine hm.set (Nat.le_of_eq hsz.symm) hj rfl (fun c hc hlt=>hoth c fun e=>hc (by rw [e];rfl)) ⟨rfl,rfl,rfl,?_⟩ rfl (.inr (.inl rfl))
    rw [eC hb1,if_pos rfl]
  · refine ⟨?_,?_,?_,Nat.le_of_eq hsz.symm,fun k hk hS=>hoth k fun e=>hS ⟨_,hmem,rfl,by rw [e];rfl⟩⟩
    all_goals rcases hw1 with rfl | rfl<;>rfl
  · exact Fresh.set (Fresh.self _ _) rfl fun c hc=>.inl ⟨_,hmem,rfl,hc⟩
theorem df {s:Sem Value} {m:List Blk} {K:AV→List Blk→Prop} (h:NMap P s m K):NMap P s m K:=h
theorem NMap.put {s:Sem Value} {m:List Blk} {K:AV→List Blk→Prop} {j b:Nat} {o o':Obj} {r:AV} (hj:m[j]?=some ⟨⟨b,0,none⟩,[],.obj o⟩)
    (h:∀ w,w.heap[b]?=some o→Qx m w→∃ w1,(w1=w∨w1=w.drew)∧s.run P w = .ok r.den (setBlock w1 b o')) (hK:K r (m.set j ⟨⟨b,0,none⟩,[],.obj o'⟩)):NMap P s m K:=by
  rw [cW]
  intro w hm
  obtain ⟨w1,hw1,hrun⟩:=h w (hm.obj hj) hm
  obtain ⟨h1,h2,h3⟩:=mA o' hm hj hw1
  exact ⟨r,_,_,hrun,hK,h1,h2,h3⟩
theorem NMap.read {s:Sem Value} {m:List Blk} {K:AV→List Blk→Prop} {r:AV} (h:∀ w,Qx m w→s.run P w = .ok r.den w) (hK:K r m):NMap P s m K:=by
  rw [cW]
  exact fun w hm=>⟨r,m,w,h w hm,hK,hm,Fr.refl _ _,Fresh.self _ _⟩
theorem NMap.new {s:Sem Value} {m:List Blk} {K:AV→List Blk→Prop} {o:Obj} {r:Nat→AV} (h:∀ w,Qx m w→s.run P w = .ok (r w.heap.size).den (w.alloc o)) (hK:∀ b,K (r b) (m++[⟨⟨b,0,none⟩,[],.obj o⟩])):NMap P s m K:=by
  rw [cW]
  intro w hm
  refine ⟨_,_,_,h w hm,hK _,?_,Fr.alloc _ _ _,?_⟩
  · refine hm.push (by simp) (fun k hk b hb=>Below.heap_alloc _ _ _ ((hm.holds k hk).lt hb)) ?_ (fun b hb=>?_)
    · exact ⟨rfl,rfl,rfl,heap_alloc_new w _⟩
    · simp [Blk.foot,Blk.bn] at hb;omega
  · refine (Fresh.self _ _).push (rfl) fun b hb=>?_
    simp [Blk.bn] at hb
    omega
structure ei (P:Program) (kt:TypeId) (ok:Value→Prop):Prop where
  check:∀ e x w,ok x→(Instr.checkKey e 10000 kt x).run P w = .ok () w
  under:∃ td,P.underlying kt=some td∧∀ x y,ok x→ok y→Instr.sameNow td x y=none∨(x=y∧Instr.sameNow td x y=some true)∨(x≠y∧Instr.sameNow td x y=some false)
  eq:∀ x y w,ok x→ok y→(x=y∧(Op.equal kt x y).run P w = .ok true w)∨(x≠y∧(Op.equal kt x y).run P w = .ok false w)
  bits:∀ x,ok x→Instr.sameBits 10000 x x=true
def bM (L:List (Value × Value)) (k:Value):Option (Nat × Value)→Prop
  | none=>∀ q∈L,q.1≠k
  | some (i,v)=>L[i]?=some (k,v)∧∀ j q,j<i→L[j]?=some q→q.1≠k
def du (L:List MapEntry) (k:Value):Option (Nat × Value)→Prop
  | none=>∀ q∈L,q.key≠k
  | some (i,v)=>(∃ q,L[i]?=some q∧q.key=k∧q.val=v)∧∀ (j:Nat) (q:MapEntry),j<i→L[j]?=some q→q.key≠k
theorem bM.e {L:List (Value × Value)} {k:Value} {r:Option (Nat × Value)} (h:bM L k r):du (mapL L) k r:=by
  cases r with
  | none =>
    intro q hq
    obtain ⟨i,hi⟩:=List.getElem?_of_mem hq
    rw [aj] at hi
    cases hL:L[i]? with
    | none=>rw [hL] at hi;cases hi
    | some p =>
      rw [hL] at hi
      injection hi with hi
      subst hi
      exact h p (List.mem_of_getElem? hL)
  | some x =>
    obtain ⟨i,v⟩:=x
    refine ⟨⟨⟨k,v,i⟩,by rw [aj,h.1];rfl,rfl,rfl⟩,fun j q hj hq=>?_⟩
    rw [aj] at hq
    cases hL:L[j]? with
    | none=>rw [hL] at hq;cases hq
    | some p =>
      rw [hL] at hq
      injection hq with hq
      subst hq
      exact h.2 j p hj hL
theorem du.tail {e:MapEntry} {L:List MapEntry} {k:Value} (hne:e.key≠k) {r:Option (Nat × Value)} (h:du (e::L) k r):∃ r',du L k r'∧r=r'.map fun p=>(p.1+1,p.2):=by
  cases r with
  | none=>exact ⟨none,fun q hq=>h q (List.mem_cons_of_mem _ hq),rfl⟩
  | some x =>
    obtain ⟨i,v⟩:=x
    obtain ⟨⟨q,h1,h2,h3⟩,h4⟩:=h
    cases i with
    | zero=>simp at h1;subst h1;exact absurd h2 hne
    | succ i=>exact ⟨some (i,v),⟨⟨q,by simpa using h1,h2,h3⟩,fun j p hj hp=>h4 (j+1) p (by omega) (by simpa using hp)⟩,rfl⟩
theorem du.head {e:MapEntry} {L:List MapEntry} {r:Option (Nat × Value)} (h:du (e::L) e.key r):r=some (0,e.val):=by
  cases r with
  | none=>exact absurd rfl (h e (by simp))
  | some x =>
    obtain ⟨i,v⟩:=x
    obtain ⟨⟨q,h1,h2,h3⟩,h4⟩:=h
    cases i with
    | zero=>simp at h1;subst h1;rw [h3]
    | succ i=>exact absurd rfl (h4 0 e (by omega) rfl)
theorem dh {kt:TypeId} {ok:Value→Prop} (hK:ei P kt ok) {k:Value} (hk:ok k) (w:World):∀ (L:List MapEntry) (i:Nat) (r:Option (Nat × Value)),(∀ q∈L,ok q.key)→du L k r →
    (Instr.findAsking kt k L i).run P w = .ok (r.map fun p=>(p.1+i,p.2)) w
  | [],i,r,_,h=>by
    cases r with
    | none=>rfl
    | some x=>obtain ⟨⟨q,h1,_⟩,_⟩:=h;simp at h1
  | e::L,i,r,hL,h=>by
    unfold Instr.findAsking
    rw [Sem.run_bind]
    rcases hK.eq k e.key w hk (hL e (by simp)) with ⟨h1,h2⟩ | ⟨h1,h2⟩
    · subst h1
      rw [h2,h.head]
      simp
    · obtain ⟨r',h3,rfl⟩:=h.tail (Ne.symm h1)
      rw [h2]
      simp only [Result.andThen_ok,Bool.false_eq_true,if_false]
      rw [dh hK hk w L (i+1) r' (fun q hq=>hL q (List.mem_cons_of_mem _ hq)) h3]
      cases r' with
      | none=>rfl
      | some p=>simp only [Option.map_some];rw [show p.1+(i+1)=p.1+1+i by omega]
theorem fQ {td:TypeDesc} {ok:Value→Prop} (hT:∀ x y,ok x→ok y→Instr.sameNow td x y=none∨(x=y∧Instr.sameNow td x y=some true)∨(x≠y∧Instr.sameNow td x y=some false)) {k:Value} (hk:ok k):∀ (L:List MapEntry) (i:Nat) (r:Option (Nat × Value)),(∀ q∈L,ok q.key)→du L k r →
    Instr.findNow td k L i=none∨Instr.findNow td k L i=some (r.map fun p=>(p.1+i,p.2))
  | [],i,r,_,h=>by
    cases r with
    | none=>exact .inr rfl
    | some x=>obtain ⟨⟨q,h1,_⟩,_⟩:=h;simp at h1
  | e::L,i,r,hL,h=>by
    unfold Instr.findNow
    rcases hT k e.key hk (hL e (by simp)) with h1 | ⟨h1,h2⟩ | ⟨h1,h2⟩
    · rw [h1];exact .inl rfl
    · rw [h2]
      subst h1
      rw [h.head]
      exact .inr (by simp)
    · rw [h2]
      obtain ⟨r',h3,rfl⟩:=h.tail (Ne.symm h1)
      rcases fQ hT hk L (i+1) r' (fun q hq=>hL q (List.mem_cons_of_mem _ hq)) h3 with h4 | h4
      · exact .inl h4
      · refine .inr ?_
        simp only
        rw [h4]
        cases r' with
        | none=>rfl
        | some p=>simp only [Option.map_some];rw [show p.1+(i+1)=p.1+1+i by omega]
theorem bT {kt:TypeId} {ok:Value→Prop} (hK:ei P kt ok) {L:List (Value × Value)} {k:Value} {r:Option (Nat × Value)} (hL:∀ q∈L,ok q.1) (hk:ok k) (h:bM L k r) (w:World) :
    (Instr.findKey kt k (mapL L)).run P w = .ok r w:=by
  have hL':∀ q∈mapL L,ok q.key:=fun q hq=>by
    obtain ⟨i,hi⟩:=List.getElem?_of_mem hq
    rw [aj] at hi
    cases hLi:L[i]? with
    | none=>rw [hLi] at hi;cases hi
    | some p =>
      rw [hLi] at hi
      injection hi with hi
      subst hi
      exact hL p (List.mem_of_getElem? hLi)
  obtain ⟨td,hu,hT⟩:=hK.under
  have e:r.map (fun p=>(p.1+0,p.2))=r:=by cases r<;>rfl
  unfold Instr.findKey
  rw [Sem.run_bind,run_underlying hu,Result.andThen_ok]
  rcases fQ hT hk (mapL L) 0 r hL' h.e with h1 | h1
  · rw [h1]
    have:=dh hK hk w (mapL L) 0 r hL' h.e
    rw [e] at this
    exact this
  · rw [h1,e]
    rfl
theorem NMap.make {t:TypeId} {m:List Blk} {K:AV→List Blk→Prop} (h:∀ b,appK m (aa b []) (K (.raw (.map (some b))))):NMap P (Instr.makeMap t none) m K :=
  NMap.new (o:=aV []) (r:=fun b=>.raw (.map (some b))) (fun w _=>rfl) fun b=>bV (h b)
theorem bG {w:World} {b:Nat} {es:Array MapEntry} {c:Nat} (h:w.heap[b]?=some (.map es c)):(getObj b).run P w = .ok (.map es c) w:=by simp [getObj,Sem.run,h]
theorem cK {w:World} {b:Nat} {es es':Array MapEntry} {c c':Nat} (h:w.heap[b]?=some (.map es c)):(setObj b (.map es' c')).run P w = .ok () (setBlock w b (.map es' c')):=by
  simp [setObj,Sem.run,h,setBlock]
theorem iJ (L:List (Value × Value)) (k v:Value):(mapL L).toArray.push ⟨k,v,L.length⟩=(mapL (L++[(k,v)])).toArray:=by
  simp [mapL,List.mapIdx_append]
theorem NMap.upd_new {t kt et:TypeId} {ok:Value→Prop} {m:List Blk} {K:AV→List Blk→Prop} {j b:Nat} {L:List (Value × Value)} {k v:Value} (hu:P.underlying t=some (.map kt et)) (hT:ei P kt ok) (hj:m[j]?=some (aa b L)) (hL:∀ q∈L,ok q.1) (hk:ok k)
    (hno:∀ q∈L,q.1≠k) (hK:setBlkK m j (aa b (L++[(k,v)])) (K (.raw undef))):NMap P (do Instr.mapUpdate t (.map (some b)) k v;pure undef) m K:=by
  have hK:=(aX hK).2
  refine NMap.put (o:=aV L) (o':=aV (L++[(k,v)])) (r:=.raw undef) hj (fun w hb hm=>⟨w,.inl rfl,?_⟩) hK
  have hf:=bT hT hL hk (r:=none) hno w
  simp only [Instr.mapUpdate,Sem.run_bind,run_underlying hu,Result.andThen_ok]
  simp only [bG hb,Result.andThen_ok,aV,Sem.run_bind,hT.check false k w hk,hf,cK hb,AV.den,iJ]
  simp [Sem.run_pure]
theorem NMap.upd_old {t kt et:TypeId} {ok:Value→Prop} {m:List Blk} {K:AV→List Blk→Prop} {j b i:Nat} {L:List (Value × Value)} {k v v0:Value} (hu:P.underlying t=some (.map kt et)) (hT:ei P kt ok) (hj:m[j]?=some (aa b L)) (hL:∀ q∈L,ok q.1) (hk:ok k)
    (hi:bM L k (some (i,v0))) (hK:setBlkK m j (aa b (L.set i (k,v))) (K (.raw undef))):NMap P (do Instr.mapUpdate t (.map (some b)) k v;pure undef) m K:=by
  have hK:=(aX hK).2
  refine NMap.put (o:=aV L) (o':=aV (L.set i (k,v))) (r:=.raw undef) hj (fun w hb hm=>⟨w,.inl rfl,?_⟩) hK
  have hf:=bT hT hL hk (r:=some (i,v0)) hi w
  have hi':(mapL L).toArray[i]?=some ⟨k,v0,i⟩:=by rw [List.getElem?_toArray,aj,hi.1];rfl
  have hm':((mapL L).toArray.modify i fun e=>{ e with key:=k,val:=v })=(mapL (L.set i (k,v))).toArray:=by
    apply Array.ext_getElem?
    intro n
    rw [Array.getElem?_modify,List.getElem?_toArray,List.getElem?_toArray,aj,aj,List.getElem?_set]
    have hlt:=(List.getElem?_eq_some_iff.1 hi.1).1
    by_cases e:i=n
    · subst e
      simp [hlt]
    · simp [e]
  simp only [Instr.mapUpdate,Sem.run_bind,run_underlying hu,Result.andThen_ok]
  simp only [bG hb,Result.andThen_ok,aV,Sem.run_bind,hT.check false k w hk,hf,hi',Option.map_some,Option.getD_some,Instr.keyThatStays,hT.bits k hk,if_true,Sem.run_pure,cK hb,AV.den,hm',List.length_set]
theorem eO (em:Bool) (w:World):∀ (n d:Nat) (t:TypeId) (ls:List Leaf) (x:AV) (xs:List AV),leafT P n t=some ls→flatT P n t=true→jK P t x xs→(∃ b,eqCells ls xs xs=some b) →
    (Instr.checkKey em (d+n) t x.den).run P w = .ok () w
  | 0,_,_,_,_,_,h,_,_,_=>by simp [leafT] at h
  | n+1,d,t,ls,x,xs,hl,hf,hx,he=>by
    rw [← Nat.add_assoc]
    unfold leafT at hl
    unfold flatT at hf
    cases hu:P.underlying t with
    | none=>simp [hu] at hl
    | some kd =>
      cases hs:szT P t with
      | none=>simp [hu,hs] at hf
      | some s =>
        rw [hu] at hl
        rw [hu,hs] at hf
        unfold Instr.checkKey
        rw [Sem.run_bind,run_underlying hu,Result.andThen_ok]
        cases kd<;>simp only [Option.some.injEq,reduceCtorEq] at hl
        case bool=>rfl
        case int k=>rfl
        case string=>rfl
        case struct fs =>
          have ha:aggT P t=some true:=by simp [aggT,hu]
          have hx':x = .agg xs:=by
            rcases hx with ⟨_,h⟩ | ⟨h1,_⟩
            · exact h
            · rw [ha] at h1;cases h1
          subst hx'
          simp only [Bool.and_eq_true,Bool.not_eq_true',beq_iff_eq] at hf
          simp only [AV.den]
          rw [← Array.forIn_toList]
          have h2:=hf.2
          have h3:∃ b,eqCells ls (xs.drop 0) (xs.drop 0)=some b:=by simpa using he
          have h0:0≤xs.length:=Nat.zero_le _
          clear he hf hx hs
          generalize fs.toList=L at hl h2 ⊢
          generalize (0:Nat)=o at h2 h3 h0
          induction L generalizing o ls with
          | nil=>simp
          | cons f L ih =>
            simp only [leafF] at hl
            split at hl
            · rename_i lx ly hlx hly
              injection hl with hl
              subst hl
              simp only [flatF] at h2
              split at h2
              · rename_i s1 hb hs1
                have hs2:=bi n f.type lx hlx hb
                rw [hs2] at hs1
                injection hs1 with hs1
                subst hs1
                split at h2
                · rename_i h4 h5
                  simp only [beq_iff_eq,beq_eq_false_iff_ne,ne_eq] at h4 h5
                  obtain ⟨b,h3⟩:=h3
                  obtain ⟨b1,b2,h6,h7,rfl⟩:=bW h3
                  have hlen:=ar h3
                  simp only [List.length_drop,List.length_append] at hlen
                  obtain ⟨u,hu1,hu2⟩:=b8 hlx hb (cs:=xs) (off:=o) (by omega)
                  have hr:=eO em w n d f.type lx u _ hlx hb hu2 ⟨b1,h6⟩
                  rw [List.drop_drop] at h7
                  have hi:=ih ly hly (o+lx.length) h2 ⟨b2,h7⟩ (by omega)
                  simp only [List.forIn_cons,Sem.run_bind,h4,h5,ne_eq,not_false_eq_true,if_true,hu1.runPart w,Result.andThen_ok,hr,Sem.run_pure] at hi ⊢
                  exact hi
                · cases h2
              · cases h2
            · cases hl
        case array len e =>
          have ha:aggT P t=some true:=by simp [aggT,hu]
          have hx':x = .agg xs:=by
            rcases hx with ⟨_,h⟩ | ⟨h1,_⟩
            · exact h
            · rw [ha] at h1;cases h1
          subst hx'
          split at hl
          · rename_i l hle
            injection hl with hl
            subst hl
            simp only [Bool.and_eq_true] at hf
            have hse:=bi n e l hle hf.1
            simp only [AV.den]
            simp only [Std.Legacy.Range.forIn_eq_forIn_range',Std.Legacy.Range.size,Nat.sub_zero,Nat.add_one_sub_one,Nat.div_one]
            have key:∀ (m k:Nat),(∃ b,eqCells (repLeaf l m) (xs.drop (k*l.length)) (xs.drop (k*l.length))=some b) →
                (forIn (List.range' k m) PUnit.unit fun i r=>do
                  Instr.checkKey em (d+n) e (← part e (denL xs).toArray (i*(← sizeOf e)))
                  pure PUnit.unit
                  pure (ForInStep.yield PUnit.unit):Sem PUnit).run P w = .ok PUnit.unit w:=by
              intro m
              induction m with
              | zero=>intro k _;simp
              | succ m ih =>
                intro k ⟨b,h3⟩
                simp only [repLeaf] at h3
                have hlen:=ar h3
                simp only [List.length_drop,List.length_append] at hlen
                obtain ⟨b1,b2,h6,h7,rfl⟩:=bW h3
                rw [List.drop_drop] at h7
                have hc:l.length=0→k*l.length=0:=fun h=>by rw [h,Nat.mul_zero]
                obtain ⟨u,hu1,hu2⟩:=b8 hle hf.1 (cs:=xs) (off:=k*l.length) (by omega)
                have hr:=eO em w n d e l u _ hle hf.1 hu2 ⟨b1,h6⟩
                have hi:=ih (k+1) ⟨b2,by rw [Nat.add_mul,Nat.one_mul];exact h7⟩
                simp only [List.range'_succ,List.forIn_cons,Sem.run_bind,run_sizeOf hse,hu1.runPart w,Result.andThen_ok,hr,Sem.run_pure]
                exact hi
            have:=key len 0 (by simpa using he)
            simp only [Sem.run_bind,Sem.run_pure] at this ⊢
            rw [this]
            rfl
          · cases hl
def ee (l:List Int):List AV:=l.map fun n=>.int .i64 n
def gL (l:List Int):Value:=.agg (l.map fun n=>Value.int .i64 n).toArray
theorem dx (l:List Int):(AV.agg (ee l)).den=gL l:=by
  unfold ee gL
  rw [AV.den]
  congr 2
  induction l with
  | nil=>rfl
  | cons x l ih=>rw [List.map_cons,denL,ih,List.map_cons];rfl
theorem dQ:∀ (a b:List Int),a.length=b.length→eqCells (List.replicate a.length .i) (ee a) (ee b)=some (decide (a=b))
  | [],[],_=>by simp [ee,eqCells]
  | [],_::_,h=>by simp at h
  | _::_,[],h=>by simp at h
  | x::a,y::b,h=>by
    have ih:=dQ a b (by simpa using h)
    unfold ee at *
    simp only [List.map_cons,List.length_cons,List.replicate_succ,eqCells,ih,eqCell,sameKind]
    by_cases h1:x=y<;>by_cases h2:a=b<;>simp [h1,h2]
theorem ei.ints {kt:TypeId} {n:Nat} (hl:leafT P 8 kt=some (List.replicate n .i)) (hf:flatT P 8 kt=true) (ha:aggT P kt=some true):ei P kt fun v=>∃ l:List Int,l.length=n∧v=gL l where
  check e x w:=by
    rintro ⟨l,rfl,rfl⟩
    rw [← dx]
    exact eO e w 8 9992 kt _ _ (ee l) hl hf (.inl ⟨ha,rfl⟩) ⟨_,dQ l l rfl⟩
  under:=by
    unfold aggT at ha
    cases hu:P.underlying kt with
    | none=>rw [hu] at ha;cases ha
    | some td =>
      refine ⟨td,rfl,fun x y hx hy=>.inl ?_⟩
      obtain ⟨l,_,rfl⟩:=hx
      obtain ⟨l',_,rfl⟩:=hy
      cases td<;>rfl
  eq x y w:=by
    rintro ⟨a,ha1,rfl⟩ ⟨b,hb1,rfl⟩
    have he:=dQ a b (by omega)
    rw [ha1] at he
    have h1:=dP w 8 9992 kt _ (.agg (ee a)) (.agg (ee b)) _ _ _ hl hf (.inl ⟨ha,rfl⟩) (.inl ⟨ha,rfl⟩) he
    rw [dx,dx] at h1
    by_cases e:a=b
    · subst e
      rw [show decide (a=a)=true by simp] at h1
      exact .inl ⟨rfl,h1⟩
    · rw [decide_eq_false e] at h1
      refine .inr ⟨fun h=>e ?_,h1⟩
      unfold gL at h
      injection h with h
      have h2:=congrArg Array.toList h
      simp only  at h2
      exact (List.map_inj_right (fun p q h=>by injection h)).1 h2
  bits x:=by
    rintro ⟨l,_,rfl⟩
    unfold gL
    have:∀ (k:Nat) (a:List Int),((a.map fun n=>Value.int .i64 n).zip (a.map fun n=>Value.int .i64 n)).all (fun (x,y)=>Instr.sameBits k x y)=true:=fun k a=>by
      induction a with
      | nil=>rfl
      | cons x a ih=>simp only [List.map_cons,List.zip_cons_cons,List.all_cons,ih,Bool.and_true];simp [Instr.sameBits]
    simp only [Instr.sameBits,beq_self_eq_true,Bool.true_and]
    exact this _ l
def bN (m:List Blk) (b:Nat) (L:List (Value × Value)):Prop:=∀ w,Qx m w→w.heap[b]?=some (aV L)
theorem bN.own {m:List Blk} {j b:Nat} {L:List (Value × Value)} (hj:m[j]?=some (aa b L)):bN m b L:=fun w hm=>hm.obj hj
theorem bN.heap {m:List Blk} {j b:Nat} {F:Heap} {L:List (Value × Value)} (hj:m[j]?=some (hpB F)) (h:F.o b (aV L)):bN m b L:=fun w hm=>(hm.holds _ (List.mem_of_getElem? hj)).2.2 b _ h
theorem NMap.look_some {t kt et:TypeId} {ok:Value→Prop} {m:List Blk} {K:AV→List Blk→Prop} {b i:Nat} {L:List (Value × Value)} {k v:Value} {c:Bool} {x:AV} (hu:P.underlying t=some (.map kt et)) (hT:ei P kt ok) (hb:bN m b L) (hL:∀ q∈L,ok q.1) (hk:ok k)
    (hi:bM L k (some (i,v))) (hx:x.den=v) (hK:K (if c then .tup [x,.bool true] else x) m):NMap P (Instr.lookup t (.map (some b)) k c) m K:=by
  refine NMap.read (r:=if c then .tup [x,.bool true] else x) (fun w hm=>?_) hK
  have hf:=bT hT hL hk hi w
  have hb:=hb w hm
  unfold aV at hb
  simp only [Instr.lookup,Sem.run_bind,run_underlying hu,Result.andThen_ok,bG hb,Sem.run_pure]
  rw [hT.check _ k w hk]
  simp only [Result.andThen_ok,hf,Sem.run_bind,Sem.run_pure]
  cases c
  · simp [hx]
  · simp [AV.den,denL,hx]
theorem NMap.look_none {t kt et:TypeId} {ok:Value→Prop} {m:List Blk} {K:AV→List Blk→Prop} {b:Nat} {L:List (Value × Value)} {k:Value} {c:Bool} {z:AV} (hu:P.underlying t=some (.map kt et)) (hz:zeroT P et=some z) (hT:ei P kt ok) (hb:bN m b L) (hL:∀ q∈L,ok q.1) (hk:ok k)
    (hi:∀ q∈L,q.1≠k) (hK:K (if c then .tup [z,.bool false] else z) m):NMap P (Instr.lookup t (.map (some b)) k c) m K:=by
  refine NMap.read (r:=if c then .tup [z,.bool false] else z) (fun w hm=>?_) hK
  have hf:=bT hT hL hk (r:=none) hi w
  have hb:=hb w hm
  unfold aV at hb
  simp only [Instr.lookup,Sem.run_bind,run_underlying hu,Result.andThen_ok,bG hb,Sem.run_pure]
  rw [hT.check _ k w hk]
  simp only [Result.andThen_ok,hf,Sem.run_bind,Sem.run_pure,dD hz]
  cases c
  · simp
  · simp [AV.den,denL]
theorem NMap.entry_old {t kt et:TypeId} {ok:Value→Prop} {m:List Blk} {K:AV→List Blk→Prop} {j b i:Nat} {L:List (Value × Value)} {k v:Value} {x:AV} (hu:P.underlying t=some (.map kt et)) (hT:ei P kt ok) (hj:m[j]?=some (aa b L)) (hL:∀ q∈L,ok q.1) (hk:ok k)
    (hi:bM L k (some (i,v))) (hx:x.den=v) (hK:setBlkK m j (aa b L) (K (.tup [x,.int .i64 i]))):NMap P (Instr.mapEntry t (.map (some b)) k) m K:=by
  have hK:=(aX hK).2
  refine NMap.put (o:=aV L) (o':=aV L) (r:=.tup [x,.int .i64 i]) hj (fun w hb hm=>⟨w,.inl rfl,?_⟩) hK
  have hf:=bT hT hL hk hi w
  have hi':(mapL L).toArray[i]?=some ⟨k,v,i⟩:=by rw [List.getElem?_toArray,aj,hi.1];rfl
  have hm':((mapL L).toArray.modify i fun e=>{ e with key:=k })=(mapL L).toArray:=by
    apply Array.ext_getElem?
    intro n
    rw [Array.getElem?_modify]
    split
    · rename_i e
      subst e
      rw [hi']
      rfl
    · rfl
  unfold aV at hb ⊢
  simp only [Instr.mapEntry,Sem.run_bind,run_underlying hu,Result.andThen_ok,bG hb]
  rw [hT.check _ k w hk]
  simp only [Result.andThen_ok,hf,Sem.run_bind,Sem.run_pure,hi',Option.map_some,Option.getD_some,Instr.keyThatStays,hT.bits k hk,if_true,hm',cK hb,AV.den,denL,hx]
  rfl
theorem NMap.entry_new {t kt et:TypeId} {ok:Value→Prop} {m:List Blk} {K:AV→List Blk→Prop} {j b:Nat} {L:List (Value × Value)} {k:Value} {z:AV} (hu:P.underlying t=some (.map kt et)) (hz:zeroT P et=some z) (hT:ei P kt ok) (hj:m[j]?=some (aa b L)) (hL:∀ q∈L,ok q.1) (hk:ok k)
    (hi:∀ q∈L,q.1≠k) (hK:setBlkK m j (aa b (L++[(k,z.den)])) (K (.tup [z,.int .i64 L.length]))):NMap P (Instr.mapEntry t (.map (some b)) k) m K:=by
  have hK:=(aX hK).2
  refine NMap.put (o:=aV L) (o':=aV (L++[(k,z.den)])) (r:=.tup [z,.int .i64 L.length]) hj (fun w hb hm=>⟨w,.inl rfl,?_⟩) hK
  have hf:=bT hT hL hk (r:=none) hi w
  unfold aV at hb ⊢
  simp only [Instr.mapEntry,Sem.run_bind,run_underlying hu,Result.andThen_ok,bG hb]
  rw [hT.check _ k w hk]
  simp only [Result.andThen_ok,hf,Sem.run_bind,Sem.run_pure,dD hz,cK hb,AV.den,denL,iJ,List.length_append,List.length_cons,List.length_nil]
  rfl
theorem nH (L:List (Value × Value)) {i:Nat} (h:i<L.length):(mapL L).toArray.findIdx? (fun e=>(e.born:Int) == (i:Int))=some i:=by
  rw [List.findIdx?_toArray,List.findIdx?_eq_some_iff_getElem]
  have hl:i<(mapL L).length:=by rw [kH];exact h
  have hb:∀ j (hj:j<(mapL L).length),((mapL L)[j]).born=j:=fun j hj=>by
    have:=aj L j
    rw [List.getElem?_eq_getElem hj,List.getElem?_eq_getElem (by rw [kH] at hj;exact hj)] at this
    simp only [Option.map_some,Option.some.injEq] at this
    rw [this]
  refine ⟨hl,by rw [hb i hl];simp,fun j hj=>?_⟩
  rw [hb j (by omega)]
  simp
  omega
theorem NMap.entry_store {t:TypeId} {m:List Blk} {K:AV→List Blk→Prop} {j b i:Nat} {L:List (Value × Value)} {k v v0:Value} (hj:m[j]?=some (aa b L)) (hi:L[i]?=some (k,v0)) (hK:setBlkK m j (aa b (L.set i (k,v))) (K (.raw undef))) :
    NMap P (do Instr.entryStore t (.map (some b)) (.int .i64 i) v;pure undef) m K:=by
  have hK:=(aX hK).2
  refine NMap.put (o:=aV L) (o':=aV (L.set i (k,v))) (r:=.raw undef) hj (fun w hb hm=>⟨w,.inl rfl,?_⟩) hK
  have hlt:=(List.getElem?_eq_some_iff.1 hi).1
  have hm':((mapL L).toArray.modify i fun e=>{ e with val:=v })=(mapL (L.set i (k,v))).toArray:=by
    apply Array.ext_getElem?
    intro n
    rw [Array.getElem?_modify,List.getElem?_toArray,List.getElem?_toArray,aj,aj,List.getElem?_set]
    by_cases e:i=n
    · subst e
      have hk:L[i].1=k:=by
        have:=List.getElem?_eq_getElem hlt
        rw [hi] at this
        injection this with this
        rw [← this]
      simp [hlt,hk]
    · simp [e]
  unfold aV at hb ⊢
  simp only [Instr.entryStore,Sem.run_bind,Sem.run_pure,Result.andThen_ok,bG hb,asInt,asIntOf,nH L hlt,hm',cK hb,AV.den,List.length_set]
theorem NMap.range {t kt et:TypeId} {m:List Blk} {K:AV→List Blk→Prop} {b:Nat} {L:List (Value × Value)} (hu:P.underlying t=some (.map kt et)) (hb:bN m b L) (hK:∀ c,appK m (itB c b L.length #[]) (K (.raw (.pointer (some ⟨c,0,none⟩))))):NMap P (Instr.range t (.map (some b))) m K:=by
  have hK:=fun c=>bV (hK c)
  refine NMap.new (o:=.mapIter (some b) L.length #[] L.length) (r:=fun c=>.raw (.pointer (some ⟨c,0,none⟩))) (fun w hm=>?_) hK
  have hb:=hb w hm
  unfold aV at hb
  simp only [Instr.range,Sem.run_bind,run_underlying hu,Result.andThen_ok,bG hb,Sem.run_pure]
  rfl
theorem NMap.next {m:List Blk} {K:AV→List Blk→Prop} {j b c:Nat} {seen:Array Nat} {L:List (Value × Value)} (hj:m[j]?=some (itB c b L.length seen)) (hb:bN m b L)
    (h0:(∀ i,i<L.length→seen.contains i=true)→K (.tup [.bool false]) m)
    (h1:∀ i k v,L[i]?=some (k,v)→seen.contains i=false→∃ x y:AV,x.den=k∧y.den=v∧setBlkK m j (itB c b L.length (seen.push i)) (K (.tup [.bool true,x,y]))) :
    NMap P (Instr.next (.pointer (some ⟨c,0,none⟩)) false 0) m K:=by
  rw [cW]
  intro w hm
  have hc:=hm.obj hj
  have hmb:=hb w hm
  have hborn:∀ x∈(mapL L).toArray.toList,x.born<L.length:=fun x hx=>by
    obtain ⟨i,hi⟩:=List.getElem?_of_mem hx
    rw [aj] at hi
    cases hL:L[i]? with
    | none=>rw [hL] at hi;cases hi
    | some p =>
      rw [hL] at hi
      injection hi with hi
      subst hi
      exact (List.getElem?_eq_some_iff.1 hL).1
  rcases run_next_at (P:=P) w 0 c b L.length L.length seen (mapL L).toArray L.length hc hmb hborn (Nat.le_refl _) with ⟨h2,h3⟩ | ⟨e,he,w1,hw1,h3⟩
  · refine ⟨.tup [.bool false],m,w,h3,h0 fun i hi=>?_,hm,Fr.refl _ _,Fresh.self _ _⟩
    cases hs:seen.contains i with
    | true=>rfl
    | false =>
      exfalso
      have hg:L[i]?=some L[i]:=List.getElem?_eq_getElem hi
      have:(⟨L[i].1,L[i].2,i⟩:MapEntry)∈leftOf (mapL L).toArray seen:=by
        unfold leftOf
        rw [Array.mem_filter]
        exact ⟨by rw [List.mem_toArray];exact List.mem_of_getElem? (by rw [aj,hg];rfl),by simp only [hs];rfl⟩
      rw [Array.eq_empty_of_size_eq_zero h2] at this
      simp at this
  · unfold leftOf at he
    rw [Array.mem_toList_iff,Array.mem_filter,List.mem_toArray] at he
    obtain ⟨he1,he2⟩:=he
    obtain ⟨i,hi⟩:=List.getElem?_of_mem he1
    rw [aj] at hi
    cases hL:L[i]? with
    | none=>rw [hL] at hi;cases hi
    | some p =>
      rw [hL] at hi
      injection hi with hi
      subst hi
      obtain ⟨x,y,hx,hy,hK⟩:=h1 i p.1 p.2 hL (by simpa using he2)
      have hK:=(aX hK).2
      obtain ⟨h4,h5,h6⟩:=mA (.mapIter (some b) L.length (seen.push i) L.length) hm hj hw1
      refine ⟨.tup [.bool true,x,y],_,_,?_,hK,h4,h5,h6⟩
      rw [h3]
      simp [AV.den,denL,hx,hy]
theorem kI (L:List (Value × Value)):((mapL L).toArray.toList.map (·.born)).Nodup:=by
  have e:(mapL L).toArray.toList.map (·.born)=List.range L.length:=by
    apply List.ext_getElem?
    intro i
    rw [List.getElem?_map]
    show Option.map _ ((mapL L)[i]?)=_
    rw [aj]
    by_cases h:i<L.length
    · rw [List.getElem?_eq_getElem h,List.getElem?_range h];rfl
    · rw [List.getElem?_eq_none (by omega),List.getElem?_eq_none (by rw [List.length_range];omega)];rfl
  rw [e]
  exact List.nodup_range
theorem NMap.now {m:List Blk} {K:AV→List Blk→Prop} {j b c i:Nat} {seen:Array Nat} {L:List (Value × Value)} {k v:Value} {x y:AV} (hj:m[j]?=some (itB c b L.length (seen.push i))) (hb:bN m b L) (hi:L[i]?=some (k,v)) (hx:x.den=k) (hy:y.den=v) (hK:K (.tup [x,y]) m) :
    NMap P (Instr.entry (.pointer (some ⟨c,0,none⟩))) m K:=by
  refine NMap.read (r:=.tup [x,y]) (fun w hm=>?_) hK
  have hc:=hm.obj hj
  have hmb:=hb w hm
  have:=run_entry_at (P:=P) w c b L.length seen (mapL L).toArray L.length ⟨k,v,i⟩ hc hmb (List.mem_of_getElem? (i:=i) (by show (mapL L)[i]?=_;rw [aj,hi];rfl)) (kI L)
  rw [this]
  simp [AV.den,denL,hx,hy]
def jJ (F:Heap) (b:Nat) (o:Obj):Heap:=⟨F.c,fun b' o'=>F.o b' o'∨(b'=b∧o'=o)⟩
theorem jJ.old {F:Heap} {b:Nat} {o:Obj}:F.le (jJ F b o):=⟨fun _ _ h=>h,fun _ _ h=>.inl h⟩
theorem Qw.freezeObj {F:Heap} {b:Nat} {o:Obj} {m:List Blk}:Qw (hpB F::⟨⟨b,0,none⟩,[],.obj o⟩::m) (hpB (jJ F b o)::m):=fun w hm=>by
  have h1:=hm.holds (hpB F) (by simp)
  have h2:=hm.holds ⟨⟨b,0,none⟩,[],.obj o⟩ (by simp)
  have hs:=hm.sep
  simp only [List.pairwise_cons] at hs
  have hf:∀ c,(hpB (jJ F b o)).foot c→(hpB F).foot c∨(⟨⟨b,0,none⟩,[],.obj o⟩:Blk).foot c:=by
    rintro c (⟨x,u,hu,rfl⟩ | ⟨o',ho | ⟨rfl,rfl⟩⟩)
    · exact .inl (.inl ⟨x,u,hu,rfl⟩)
    · exact .inl (.inr ⟨o',ho⟩)
    · exact .inr rfl
  refine ⟨⟨fun k hk=>?_,?_⟩,fun c ⟨k,hk,hw,hb⟩=>?_,fun c ⟨k,hk,hb⟩=>?_⟩
  · rcases List.mem_cons.1 hk with rfl | hk
    · refine ⟨rfl,h1.2.1,fun c o' ho=>?_⟩
      rcases ho with ho | ⟨rfl,rfl⟩
      · exact h1.2.2 c o' ho
      · exact h2.2.2.2
    · exact hm.holds k (List.mem_cons_of_mem _ (List.mem_cons_of_mem _ hk))
  · refine List.pairwise_cons.2 ⟨fun k hk hw c hc hd=>?_,hs.2.2⟩
    have hkw:k.wr=true:=by
      rcases hw with hw | hw
      · cases hw
      · exact hw
    rcases hf c hc with hc | hc
    · exact hs.1 k (List.mem_cons_of_mem _ hk) (.inr hkw) c hc hd
    · exact hs.2.1 k hk (.inr hkw) c hc hd
  · rcases List.mem_cons.1 hk with rfl | hk
    · cases hw
    · exact ⟨k,List.mem_cons_of_mem _ (List.mem_cons_of_mem _ hk),hw,hb⟩
  · rcases List.mem_cons.1 hk with rfl | hk
    · rcases hf c hb with hc | hc
      · exact ⟨hpB F,by simp,hc⟩
      · exact ⟨_,List.mem_cons_of_mem _ (List.mem_cons_self ..),hc⟩
    · exact ⟨k,List.mem_cons_of_mem _ (List.mem_cons_of_mem _ hk),hb⟩
end
section
variable {P:Program}
set_option linter.unusedVariables false
theorem ib (z:List AV) (n:Nat) (hz:0<z.length):(Builtin.zeroCells (denL z).toArray n).toList=denL (repCells z n):=by
  unfold Builtin.zeroCells
  have h:=lE z n (.inl hz)
  rw [show (denL z).toArray.size=z.length by simp [aF]] at h ⊢
  rw [h]
theorem ia (g off:Nat):(⟨g,0,none⟩:Addr).add off=⟨g,off,none⟩:=by
  unfold Addr.add
  split<;>simp_all
theorem mo {m:List Blk} {w:World} (hm:Qx m w) {j:Nat} {a:Addr} {cs:List AV} {v:Value} {t:TypeId} {sz n:Nat} (hj:m[j]?=some ⟨a,cs,.row v t sz n⟩) (hn:0<n) {off:Nat} {xs:List AV} (hlen:off+xs.length≤cs.length) (hones:ones xs=true) :
    ∃ w',(storeCells (a.add off) (denL xs)).run P w = .ok () w'∧Qx (m.set j ⟨a,cs.take off++xs++cs.drop (off+xs.length),.row v t sz n⟩) w'∧Fr (wrs m) w w'∧Fresh (own m) w (m.set j ⟨a,cs.take off++xs++cs.drop (off+xs.length),.row v t sz n⟩):=by
  have hmem:=List.mem_of_getElem? hj
  have hh:=hm.holds _ hmem
  have hwr:(⟨a,cs,.row v t sz n⟩:Blk).wr=true:=rfl
  unfold Blk.holds at hh
  obtain ⟨⟨h5,h6⟩,h7⟩:=hh
  rcases h6 with ⟨hv,h0⟩ | ⟨g,cap,cur,hv,hbg,hg,hc1,hc2,hc3,hc4⟩
  · exact absurd h0 (by omega)
  · dsimp only at h5 h7 hc4
    have hba:a=⟨g,0,none⟩:=by rw [h7,hv];rfl
    have hbn:(⟨a,cs,.row v t sz n⟩:Blk).bn=some g:=by simp [Blk.bn,hv,Value.ownBlock]
    have hlc:cs.length≤cur.size:=by
      have:=congrArg List.length hc4
      rw [aF] at h5
      simp [aF] at this
      omega
    have hst:=run_storeCells_at P g off t (denL xs) 0 cur w hg (by rw [aF];omega) (dv hones)
    have hadd:a.add off=⟨g,off,none⟩:=by rw [hba];exact ia g off
    refine ⟨w.setRow g (cur.toList.take (off+0)++denL xs++cur.toList.drop (off+0+(denL xs).length)).toArray,?_,?_,?_,?_⟩
    · rw [hadd];exact hst
    · refine hm.set (by simp) hj hwr (fun c hc hlt=>setRow_other w g c _ (fun e=>hc (by rw [hbn,e]))) ?_ rfl (.inr (.inl ?_))
      · unfold Blk.holds
        dsimp only
        have hl2:(cs.take off++xs++cs.drop (off+xs.length)).length=cs.length:=by simp;omega
        have hcs:(denL cs).length=n*sz:=h5
        have e1:denL (cs.take off++xs++cs.drop (off+xs.length))=(denL cs).take off++denL xs++(denL cs).drop (off+(denL xs).length):=by simp [az]
        have e2:cur.toList=denL cs++cur.toList.drop cs.length:=by
          have:cur.toList.take cs.length=denL cs:=by rw [← aF,h5];exact hc4
          rw [← this];exact (List.take_append_drop _ _).symm
        refine ⟨⟨by rw [aF,hl2,← aF];exact h5,.inr ⟨g,cap,_,hv,hbg,setRow_heap w g _ _ t _ hg,hc1,hc2,?_,?_⟩⟩,h7⟩
        · simp [aF];omega
        · rw [e1,← hcs,Nat.add_zero,e2]
          exact fC _ _ _ _ (by rw [aF,aF];exact hlen)
      · rfl
    · refine (Fr.refl (wrs m) w).then (Fr.setRow w g _) fun i hi=>?_
      subst hi
      exact .inl ⟨_,hmem,hwr,hbn⟩
    · exact (Fresh.self _ _).set rfl fun c hc=>.inl ⟨_,hmem,hwr,hc⟩
theorem NMap.clear {m:List Blk} {K:AV→List Blk→Prop} {j:Nat} {a:Addr} {cs:List AV} {v:Value} {st e t ty:TypeId} {sz n i:Nat} {z:AV} (hj:m[j]?=some ⟨a,cs,.row v t sz n⟩) (hu:P.underlying st=some (.slice e)) (hz:zeroT P e=some z) (hzl:z.cells.length=sz) (h0:0<sz) (ho:ones z.cells=true)
    (hcs:cs.length=n*sz) (hi:i<n) (hK:setBlkK m j ⟨a,cs.take (i*sz)++repCells z.cells (n - i),.row v t sz n⟩ (K (.tup []))):NMap P (Builtin.clear_ #[st] ty #[cutSl v sz i n]) m K:=by
  have hK:=(aX hK).2
  rw [cW]
  intro w hm
  have hh:=hm.holds _ (List.mem_of_getElem? hj)
  unfold Blk.holds at hh
  obtain ⟨⟨h5,h6⟩,h7⟩:=hh
  rcases h6 with ⟨hv,h0⟩ | ⟨g,cap,cur,hv,hbg,hg,hc1,hc2,hc3,hc4⟩
  · exact absurd h0 (by omega)
  dsimp only at h7
  have hones:ones (repCells z.cells (n - i))=true:=by
    have hap:∀ xs ys:List AV,ones xs=true→ones ys=true→ones (xs++ys)=true:=fun xs ys hx hy=>by
      induction xs with
      | nil=>exact hy
      | cons x xs ih=>cases x<;>simp_all [ones]
    generalize n - i=k
    induction k with
    | zero=>rfl
    | succ k ih=>exact hap _ _ ho ih
  have hrl:(repCells z.cells (n - i)).length=(n - i)*sz:=by rw [bD,hzl]
  have hmul:i*sz+(n - i)*sz=n*sz:=by rw [← Nat.add_mul];congr 1;omega
  obtain ⟨w',h1,h2,h3,h4⟩:=mo (P:=P) hm hj (by omega) (off:=i*sz) (xs:=repCells z.cells (n - i)) (by omega) hones
  have hd:cs.drop (i*sz+(repCells z.cells (n - i)).length)=[]:=by rw [List.drop_eq_nil_iff];omega
  rw [hd,List.append_nil] at h2 h4
  refine ⟨.tup [],_,w',?_,hK,h2,h3,h4⟩
  have hba:a=⟨g,0,none⟩:=by rw [h7,hv];rfl
  have hcut:cutSl v sz i n = .slice (some (a.add (i*sz))) (n - i) (cap - i):=by
    rw [hv,hba]
    unfold cutSl aw
    dsimp only
    rw [if_neg (by omega)]
    rfl
  rw [hcut]
  obtain ⟨k,hk⟩:∃ k,n - i=k+1:=⟨n - i - 1,by omega⟩
  have hzv:=dD (P:=P) hz w
  rw [← ib _ _ (by omega)] at h1
  rw [hk] at h1 ⊢
  simp only [Builtin.clear_,List.getElem?_toArray,List.getElem?_cons_zero,Sem.run_bind,run_underlying hu,Result.andThen_ok,hzv,aq,h1,Sem.run_pure]
  rfl
end
end Go.Sx
namespace Go.Proofs.YtmehinfgdcmmjaaGreatDoor
open Go.Sx
set_option maxRecDepth 20000
set_option maxHeartbeats 4000000
set_option linter.unusedVariables false
namespace Pd
def Out (F:Heap) (t:TypeId) (X:T) (v:AV) (m:List Blk):Prop :=
  Got F t X v m∨∃ G u,F.le G∧Row G u X.l∧v.den=(AV.agg (cs X u)).den∧Qw m [hpB G]
theorem out_know {f:FuncId} {args:List AV} {F:Heap} {t:TypeId} {m:List Blk} {X:T} (h:Qz Tryz.prog f args m fun v m'=>Out F t X v m') :
    Qz Tryz.prog f args m fun v m'=>Lays F X v m':=by
  refine Go.Sx.Qz.know h fun r m' hq ⟨w,hw⟩=>?_
  rcases hq with ⟨G,u,ps,hle,hmap,hall,hr,hm⟩ | ⟨G,u,hle,hrow,hr,hm⟩
  · have hok:=((hm w hw).1.row (List.mem_cons_of_mem _ (List.mem_cons_self ..))).1
    have hrow:=aM (F:=G) (sz:=4) (enc:=psV) hok (psC_den ps) (fun x _=>rfl)
    refine ⟨_,_,hr.symm,hm.trans (Qw.freeze (m:=[])),_,u,hle.trans addF.old,?_,rfl,rfl⟩
    rw [← hmap]
    exact row_of hrow fun p hp=>Row.mono addF.old (hall p hp)
  · exact ⟨_,_,hr.symm,hm,G,u,hle,hrow,rfl,rfl⟩
theorem fits_mk {k f v:Int} {l:List T} (h:fits (.mk k f v l)=true):(k=3∧(0≤f∧f≤5)∧(0≤v∧v≤top f)∧l.length=0∨(k=1∨k=2)∧f=0∧v=0∧l.length=0∨k=4∧f=0∧v=0∧l.length=1∨(k=5∨k=6)∧f=0∧v=0∧2≤l.length∧l.length≤8)∧∀ x∈l,fits x=true:=by
  rw [fits,Bool.and_eq_true,fitsL_iff] at h
  have h1:=h.1
  unfold shape at h1
  rw [decide_eq_true_eq] at h1
  exact ⟨h1,h.2⟩
theorem size_mk (k f v:Int) (l:List T):size (.mk k f v l)=1+sizeL l:=by rw [size]
end Pd
theorem Qz.grow {α:Type} {P:Program} {f:FuncId} {args:List AV} {m:List Blk} {F:Heap} {t:TypeId} {sz:Nat} (enc:α→List Value) (cs:List α→List AV) (K:List α→Prop)
    (h:Qz P f args m fun r m'=>∃ u l,K l∧r.den=aw u∧Qw m' [hpB F,⟨addrOf u,cs l,.row u t sz l.length⟩]) (hcs:∀ l,denL (cs l)=l.flatMap enc) (hsz:∀ x,(enc x).length=sz) :
    Qz P f args m fun r m'=>∃ F' u l,K l∧F.le F'∧r = .hs u l.length∧m'=[hpB F']∧aI F' sz (fun x us=>us=enc x) u l:=by
  refine Go.Sx.Qz.know h fun r m' ⟨u,l,hK,hr,hm⟩ ⟨w,hw⟩=>?_
  have hok:=((hm w hw).1.row (List.mem_cons_of_mem _ (List.mem_singleton.2 rfl))).1
  exact ⟨.hs u l.length,_,hr.symm,hm.trans (Qw.freeze (m:=[])),_,u,l,hK,addF.old,rfl,rfl,aM hok (hcs l) fun x _=>hsz x⟩
namespace Po
theorem wideS_min {l:List T} (hp:∀ y∈l,1≤wide y):∀ m,min m 1000≤wideS m l:=by
  induction l with
  | nil=>intro m;rw [wideS];exact Nat.min_le_left _ _
  | cons y l ih =>
    intro m
    have h:=ih (fun z hz=>hp z (by simp [hz])) (min (m*wide y) 1000)
    have h2:=Nat.mul_le_mul_left m (hp y (by simp))
    rw [wideS]
    omega
theorem wideU_min {l:List T}:∀ m,min m 1000≤wideU m l:=by
  induction l with
  | nil=>intro m;rw [wideU];exact Nat.min_le_left _ _
  | cons y l ih =>
    intro m
    have h:=ih (min (m+wide y) 1000)
    rw [wideU]
    omega
theorem wideS_pre {l:List T} (hp:∀ y∈l,1≤wide y) (i:Nat):wideS 1 (l.take i)≤wideS 1 l:=by
  have h:=wideS_append (l.take i) (l.drop i) 1
  rw [List.take_append_drop] at h
  have h2:=wideS_min (l:=l.drop i) (fun z hz=>hp z (List.mem_of_mem_drop hz)) (wideS 1 (l.take i))
  have h3:=wideS_le (l.take i) 1 (by decide)
  omega
theorem wideU_pre {l:List T} (i:Nat):wideU 0 (l.take i)≤wideU 0 l:=by
  have h:=wideU_append (l.take i) (l.drop i) 0
  rw [List.take_append_drop] at h
  have h2:=wideU_min (l:=l.drop i) (wideU 0 (l.take i))
  have h3:=wideU_le (l.take i) 0 (by decide)
  omega
theorem wideS_one {l:List T} (hp:∀ y∈l,1≤wide y) {i:Nat} (h:i<l.length):wide l[i]≤wideS 1 l:=by
  have h1:=wideS_pre hp (i+1)
  rw [wideS_take 1 h] at h1
  have h2:=wideS_min (l:=l.take i) (fun z hz=>hp z (List.mem_of_mem_take hz)) 1
  have h3:=wide_le l[i]
  have h4:=Nat.mul_le_mul_right (wide l[i]) (show 1≤wideS 1 (l.take i) by omega)
  omega
theorem wideU_one {l:List T} {i:Nat} (h:i<l.length):wide l[i]≤wideU 0 l:=by
  have h1:=wideU_pre (l:=l) (i+1)
  rw [wideU_take 0 h] at h1
  have h3:=wide_le l[i]
  omega
theorem seq_parts (sw k:Int) {p:Pd.T} {f v:Int} {l:List T} (h:fits (.mk 3 p f v l)=true) (hw:wide (.mk 3 p f v l)<1000) (s:S):(∀ i,(runsQ sw (l.take i) [s]).length<1000)∧∀ i (hi:i<l.length),wide l[i]<1000∧∀ s,(runs sw l[i] s).length≤wide l[i]:=by
  obtain ⟨_,hfl⟩:=fits_iff.1 h
  have hp:∀ y∈l,1≤wide y:=fun y hy=>wide_pos _ y (Nat.le_refl _) (hfl y hy)
  have hr:∀ y∈l,∀ s,wide y<1000→(runs sw y s).length≤wide y:=fun y hy=>runs_len sw _ y (Nat.le_refl _) (hfl y hy)
  rw [wide_mk,if_pos rfl] at hw
  refine ⟨fun i=>?_,fun i hi=>?_⟩
  · have h1:=wideS_pre hp i
    have:=runsQ_len sw (l.take i) [s] 1 (fun y hy=>hr y (List.mem_of_mem_take hy)) (fun y hy=>hp y (List.mem_of_mem_take hy)) (Nat.le_refl _) (by simp) (by omega)
    omega
  · have h1:=wideS_one hp hi
    exact ⟨by omega,fun s=>hr _ (List.getElem_mem hi) s (by omega)⟩
theorem uni_parts (sw:Int) {p:Pd.T} {f v:Int} {l:List T} (h:fits (.mk 4 p f v l)=true) (hw:wide (.mk 4 p f v l)<1000) (s:S):(∀ i,(runsU sw (l.take i) s []).length<1000)∧∀ i (hi:i<l.length),wide l[i]<1000∧∀ s,(runs sw l[i] s).length≤wide l[i]:=by
  obtain ⟨_,hfl⟩:=fits_iff.1 h
  have hr:∀ y∈l,∀ s,wide y<1000→(runs sw y s).length≤wide y:=fun y hy=>runs_len sw _ y (Nat.le_refl _) (hfl y hy)
  rw [wide_mk,if_neg (by decide),if_pos rfl] at hw
  refine ⟨fun i=>?_,fun i hi=>?_⟩
  · have h1:=wideU_pre (l:=l) i
    have:=runsU_len sw s (l.take i) [] 0 (fun y hy=>hr y (List.mem_of_mem_take hy) s) (by simp) (by omega)
    omega
  · have h1:=wideU_one hi
    exact ⟨by omega,fun s=>hr _ (List.getElem_mem hi) s (by omega)⟩
theorem if_parts {p:Pd.T} {f v:Int} {a b:T} (hw:wide (.mk 5 p f v [a,b])<1000):wide a<1000∧wide b<1000:=by
  rw [wide_mk,if_neg (by decide),if_neg (by decide),if_pos rfl] at hw
  have h1:=(wideI_ge [a,b] 0).2 a (by simp)
  have h2:=(wideI_ge [a,b] 0).2 b (by simp)
  omega
theorem runs_k3 (sw f v:Int) (p:Pd.T) (l:List T) (t:S):runs sw (.mk 3 p f v l) t=runsQ sw l [t]:=by rw [runs_mk];simp
theorem runs_k4 (sw f v:Int) (p:Pd.T) (l:List T) (t:S):runs sw (.mk 4 p f v l) t=runsU sw l t []:=by rw [runs_mk];simp
theorem runs_k5 (sw f v:Int) (p:Pd.T) (a b:T) (t:S):runs sw (.mk 5 p f v [a,b]) t=if Pd.hits (t.at_ sw) p=true then runs sw a t else runs sw b t:=by rw [runs_mk,runsA,runsB,runsA];simp
theorem runsU_nil (sw:Int) (t:S):runsU sw ([]:List T) t []=[]:=by rw [runsU]
theorem fold_take (sw:Int) (y:T) {out:List S} {k:Nat} (h:k<out.length):(out.take (k+1)).foldl (fun next t=>both next (runs sw y t)) []=both ((out.take k).foldl (fun next t=>both next (runs sw y t)) []) (runs sw y out[k]):=by
  rw [List.take_add_one,List.getElem?_eq_getElem h,Option.toList_some,List.foldl_append];rfl
theorem both_take (a:List S) {b:List S} {k:Nat} (h:k<b.length):both a (b.take (k+1))=ins b[k] (both a (b.take k)):=by
  unfold both
  rw [List.take_add_one,List.getElem?_eq_getElem h,Option.toList_some,List.foldl_append];rfl
end Po
namespace Tp
abbrev Pl:=Int × Int
def lkP (x:Lk):List Pl:=[(x.a,x.pa),(x.b,x.pb)]
def hsP (x:Hs):Pl:=(x.at_,x.port)
def places (t:T):List Pl:=t.ls.flatMap lkP++t.hs.map hsP
def lkOk (x:Lk):Bool:=decide (¬ x.a=x.b∧1≤x.least∧x.least≤x.most∧x.most≤1000)
def plOk (t:T) (q:Pl):Bool:=decide ((0≤q.1∧q.1<t.n)∧0≤q.2∧q.2<8)
def bounds (t:T):Bool:=decide ((1≤t.n∧t.n≤8)∧t.ls.length≤24∧t.hs.length≤8)
def right (t:T):Bool:=bounds t&&(t.ls.all lkOk&&((places t).all (plOk t)&&decide (places t).Nodup))
theorem all_next {α:Type} {q:α→Bool} {l:List α} {k:Nat} {x:α} (hx:l[k]?=some x):(l.take (k+1)).all q=((l.take k).all q&&q x):=by
  rw [List.take_add_one,hx,List.all_append]
  simp
theorem all_not {α:Type} {q:α→Bool} {l:List α} {k:Nat} {x:α} (hx:l[k]?=some x) (h:q x=false):l.all q=false:=by
  rw [List.all_eq_false]
  exact ⟨x,List.mem_of_getElem? hx,by rw [h];simp⟩
theorem right_bounds {t:T} (h:bounds t=false):right t=false:=by unfold right;rw [h];rfl
theorem right_lk {t:T} (h:t.ls.all lkOk=false):right t=false:=by unfold right;rw [h];simp
theorem right_pl {t:T} (h:(places t).all (plOk t)=false):right t=false:=by unfold right;rw [h];simp
theorem right_dup {t:T} (h:¬ (places t).Nodup):right t=false:=by unfold right;rw [decide_eq_false h];simp
theorem right_ok {t:T} (h:bounds t=true) (h2:t.ls.all lkOk=true) (h3:(places t).all (plOk t)=true) (h4:(places t).Nodup):right t=true:=by unfold right;rw [h,h2,h3,decide_eq_true h4];rfl
theorem nodup_take {l:List Pl} {k:Nat} {x:Pl} (hx:l[k]?=some x) (h:(l.take k).Nodup) (hno:x ∉ l.take k):(l.take (k+1)).Nodup:=by
  rw [List.take_add_one,hx]
  exact List.nodup_append.2 ⟨h,by simp,fun a ha b hb e=>by simp at hb;subst hb;subst e;exact hno ha⟩
theorem dup_take {l:List Pl} {k:Nat} {x:Pl} (hx:l[k]?=some x) (h:x∈l.take k):¬ l.Nodup:=fun hn=>by
  have h2:(l.take (k+1)).Nodup:=hn.sublist (List.take_sublist ..)
  rw [List.take_add_one,hx] at h2
  exact (List.nodup_append.1 h2).2.2 x h x (by simp) rfl
theorem places_len (t:T):(places t).length=2*t.ls.length+t.hs.length:=by
  unfold places
  rw [List.length_append,List.length_map]
  congr 1
  induction t.ls with
  | nil=>rfl
  | cons x l ih=>rw [List.flatMap_cons,List.length_append,ih,List.length_cons];show 2+_=_;omega
end Tp
namespace Ps
inductive R (α:Type) where
  | ok (x:α) (n:Nat)
  | bad (n:Nat)
def tk (l:List Lx.B) (i:Nat):Lx.B:=l[i]?.getD ⟨4,0,[]⟩
def is (l:List Lx.B) (i:Nat) (s:List UInt8):Bool:=(decide ((tk l i).k=1)||decide ((tk l i).k=3))&&decide ((tk l i).s=s)
def more {α:Type} (l:List Lx.B) (b:List UInt8) (one:Nat→R α):Nat→List α→Nat→R (List α)
  | 0,_,i=>.bad i
  | n+1,acc,i=>if is l i b=true then match one (i+1) with
      | .ok x j=>more l b one n (acc++[x]) j
      | .bad j=>.bad j
    else .ok acc i
def chain {α:Type} (l:List Lx.B) (b:List UInt8) (one:Nat→R α) (i:Nat):R (List α):=match one i with
  | .ok x j=>more l b one (l.length+1 - j) [x] j
  | .bad j=>.bad j
def wrap {α:Type} (f:List α→α):R (List α)→R α
  | .ok [x] j=>.ok x j
  | .ok xs j=>.ok (f xs) j
  | .bad j=>.bad j
def wTrue:List UInt8:=[116,114,117,101]
def wFalse:List UInt8:=[102,97,108,115,101]
def wNot:List UInt8:=[110,111,116]
def wOpen:List UInt8:=[40]
def wShut:List UInt8:=[41]
def wAnd:List UInt8:=[97,110,100]
def wOr:List UInt8:=[111,114]
def wEq:List UInt8:=[61]
def wSet:List UInt8:=[58,61]
def wDrop:List UInt8:=[100,114,111,112]
def wId:List UInt8:=[105,100]
def wWhen:List UInt8:=[119,104,101,110]
def wIf:List UInt8:=[105,102]
def wThen:List UInt8:=[116,104,101,110]
def wElse:List UInt8:=[101,108,115,101]
def wSemi:List UInt8:=[59]
def wBar:List UInt8:=[124]
def words:List (List UInt8):=[[115,114,99],[100,115,116],[107,105,110,100],[116,97,103],[112,111,114,116],[115,119,105,116,99,104]]
def field (l:List Lx.B) (i many:Nat):Option Nat:=if (tk l i).k=1 then (words.take many).findIdx? (fun w=>decide (w=(tk l i).s)) else none
def assign (l:List Lx.B) (many:Nat) (sign:List UInt8) (i:Nat):R (Int × Int):=match field l i many with
  | none=>.bad i
  | some f=>if is l (i+1) sign=true then (if (tk l (i+2)).k=2 then .ok ((f:Int),(tk l (i+2)).n) (i+3) else .bad (i+2)) else .bad (i+1)
def group (l:List Lx.B) (part:Nat→R Pd.T) (i:Nat):R Pd.T:=wrap (fun xs=>.mk 5 0 0 xs) (chain l wAnd part i)
def cond (l:List Lx.B) (part:Nat→R Pd.T) (i:Nat):R Pd.T:=wrap (fun xs=>.mk 6 0 0 xs) (chain l wOr (group l part) i)
def shut {α:Type} (l:List Lx.B):R α→R α
  | .ok x j=>if is l j wShut=true then .ok x (j+1) else .bad j
  | .bad j=>.bad j
def part (l:List Lx.B):Nat→Nat→R Pd.T
  | 0,i=>.bad i
  | n+1,i =>
    if is l i wTrue=true then .ok (.mk 1 0 0 []) (i+1)
    else if is l i wFalse=true then .ok (.mk 2 0 0 []) (i+1)
    else if is l i wNot=true then match part l n (i+1) with
      | .ok x j=>.ok (.mk 4 0 0 [x]) j
      | .bad j=>.bad j
    else if is l i wOpen=true then shut l (cond l (part l n) (i+1))
    else match assign l 6 wEq i with
      | .ok (f,v) j=>.ok (.mk 3 f v []) j
      | .bad j=>.bad j
def none26:Pd.T:=.mk 0 0 0 []
def row (l:List Lx.B) (step:Nat→R Po.T) (i:Nat):R Po.T:=wrap (fun xs=>.mk 3 none26 0 0 xs) (chain l wSemi step i)
def rows (l:List Lx.B) (step:Nat→R Po.T) (i:Nat):R Po.T:=wrap (fun xs=>.mk 4 none26 0 0 xs) (chain l wBar (row l step) i)
def choice (l:List Lx.B) (cnd:Nat→R Pd.T) (step:Nat→R Po.T) (i:Nat):R Po.T:=match cnd i with
  | .bad j=>.bad j
  | .ok c j=>if is l j wThen=true then match step (j+1) with
      | .bad j=>.bad j
      | .ok a j=>if is l j wElse=true then match step (j+1) with
          | .bad j=>.bad j
          | .ok b j=>.ok (.mk 5 c 0 0 [a,b]) j
        else .bad j
    else .bad j
def step (l:List Lx.B):Nat→Nat→R Po.T
  | 0,i=>.bad i
  | n+1,i =>
    if is l i wDrop=true then .ok (.mk 1 (.mk 2 0 0 []) 0 0 []) (i+1)
    else if is l i wId=true then .ok (.mk 1 (.mk 1 0 0 []) 0 0 []) (i+1)
    else if is l i wWhen=true then match cond l (part l l.length) (i+1) with
      | .ok c j=>.ok (.mk 1 c 0 0 []) j
      | .bad j=>.bad j
    else if is l i wIf=true then choice l (cond l (part l l.length)) (step l n) (i+1)
    else if is l i wOpen=true then shut l (rows l (step l n) (i+1))
    else match assign l 5 wSet i with
      | .ok (f,v) j=>.ok (.mk 2 none26 f v []) j
      | .bad j=>.bad j
def whole {α:Type} (l:List Lx.B):R α→R α
  | .ok x j=>if (tk l j).k=4 then .ok x 0 else .bad j
  | .bad j=>.bad j
end Ps
namespace Pd
end Pd
namespace Po
end Po
namespace Ps
open Lx (B toks nextB skip isL isD isS isSp)
def bs (t:List UInt8):Option (List B):=(toks t).map (List.map Prod.fst)
theorem bs_skip {t y:List UInt8} (h:skip t=skip y):bs t=bs y:=by unfold bs;rw [Lx.toks_skip h]
theorem skip_sp (u:List UInt8):skip (32::u)=skip u:=by
  have e:(32::u).dropWhile isSp=u.dropWhile isSp:=List.dropWhile_cons_of_pos (by decide)
  cases hu:u.dropWhile isSp with
  | nil=>rw [Lx.skip_nil (e.trans hu),Lx.skip_nil hu]
  | cons c r=>rw [Lx.skip_cons (e.trans hu),Lx.skip_cons hu]
theorem bs_sp (u:List UInt8):bs (32::u)=bs u:=bs_skip (skip_sp u)
theorem bs_nil:bs []=some []:=by unfold bs;rw [Lx.toks_nil (Lx.skip_nil rfl)];rfl
theorem bs_tok {c:UInt8} {r:List UInt8} {b:B} {n:Nat} (h1:isSp c=false) (h2:c≠35) (h:nextB (c::r)=some (b,n)):bs (c::r)=(bs ((c::r).drop n)).map (b::·):=by
  have hs:=Lx.skip_id (r:=r) h1 h2
  unfold bs
  rw [Lx.toks_cons (by rw [hs];exact List.cons_ne_nil _ _) (by rw [hs];exact h),hs]
  cases toks ((c::r).drop n)<;>rfl
def free (y:List UInt8):Prop:=∀ c r,y=c::r→isL c=false∧isD c=false
theorem free_nil:free []:=fun c r h=>by cases h
theorem free_sp (y:List UInt8):free (32::y):=fun c r h=>by injection h with h _;rw [← h];decide
theorem letter_sp {c:UInt8} (h:isL c=true):isSp c=false∧c≠35:=by
  unfold isL at h
  simp only [Bool.and_eq_true,decide_eq_true_eq] at h
  constructor
  · unfold isSp
    cases hc:(c == 32||c == 9||c == 10) with
    | false=>rfl
    | true =>
      simp only [Bool.or_eq_true,beq_iff_eq] at hc
      rcases hc with (rfl | rfl) | rfl<;>revert h<;>decide
  · rintro rfl
    revert h;decide
theorem digit_sp {c:UInt8} (h:isD c=true):isSp c=false∧c≠35:=by
  unfold isD at h
  simp only [Bool.and_eq_true,decide_eq_true_eq] at h
  constructor
  · unfold isSp
    cases hc:(c == 32||c == 9||c == 10) with
    | false=>rfl
    | true =>
      simp only [Bool.or_eq_true,beq_iff_eq] at hc
      rcases hc with (rfl | rfl) | rfl<;>revert h<;>decide
  · rintro rfl
    revert h;decide
theorem digit_letter {c:UInt8} (h:isD c=true):isL c=false:=by
  unfold isD at h
  unfold isL
  simp only [Bool.and_eq_true,decide_eq_true_eq] at h
  rw [decide_eq_false (by omega),Bool.false_and]
theorem bs_word {w y:List UInt8} (hw:∀ c∈w,isL c=true) (hne:w≠[]) (hy:free y):bs (w++y)=(bs y).map (⟨1,0,w⟩::·):=by
  obtain ⟨c,r,rfl⟩:=List.exists_cons_of_ne_nil hne
  have hc:=hw c (by simp)
  obtain ⟨h1,h2⟩:=letter_sp hc
  have ht:=Lx.tw_ext (p:=isL) (a:=c::r) (r:=y) hw fun c t e=>(hy c t e).1
  have hn:nextB (c::(r++y))=some (⟨1,0,c::r⟩,(c::r).length):=by
    rw [Lx.nextB_eq,if_pos hc]
    have:=ht.1
    rw [List.cons_append] at this
    rw [this]
  rw [List.cons_append,bs_tok h1 h2 hn,← List.cons_append,List.drop_left]
theorem bs_num {v:Int} {y:List UInt8} (h0:0≤v) (h9:v≤255) (hy:free y):bs (Lib.itoa v++y)=(bs y).map (⟨2,v,[]⟩::·):=by
  obtain ⟨n,rfl⟩:=Int.eq_ofNat_of_zero_le h0
  have hall:∀ n:Nat,n<256→(∀ c∈Lib.itoa (n:Int),isD c=true)∧Lib.itoa (n:Int)≠[]∧¬ (3<(Lib.itoa (n:Int)).length∨(1<(Lib.itoa (n:Int)).length∧(Lib.itoa (n:Int)).head?=some 48))∧Lx.num (Lib.itoa (n:Int))=n:=by decide +kernel
  obtain ⟨hd,hne,hok,hnum⟩:=hall n (by omega)
  have hw:∀ w:List UInt8,(∀ c∈w,isD c=true)→w≠[]→¬ (3<w.length∨(1<w.length∧w.head?=some 48))→Lx.num w=n→bs (w++y)=(bs y).map (⟨2,(n:Int),[]⟩::·):=fun w hd hne hok hnum=>by
    obtain ⟨c,r,rfl⟩:=List.exists_cons_of_ne_nil hne
    have hc:=hd c (by simp)
    obtain ⟨h1,h2⟩:=digit_sp hc
    have ht:=(Lx.tw_ext (p:=isD) (a:=c::r) (r:=y) hd fun c t e=>(hy c t e).2).1
    rw [List.cons_append] at ht
    have hl:=digit_letter hc
    have hn:nextB (c::(r++y))=some (⟨2,(n:Int),[]⟩,(c::r).length):=by
      rw [Lx.nextB_eq,if_neg (by rw [hl];decide),if_pos hc,ht,if_neg (fun h=>hok (by simpa using h)),hnum]
    rw [List.cons_append,bs_tok h1 h2 hn,← List.cons_append,List.drop_left]
  exact hw _ hd hne hok hnum
theorem bs_sign {c:UInt8} (y:List UInt8) (h:isS c=true):bs (c::y)=(bs y).map (⟨3,0,[c]⟩::·):=by
  have hc:c=40∨c=41∨c=59∨c=124∨c=61:=by
    unfold isS at h
    simpa [or_assoc] using h
  have hn:nextB (c::y)=some (⟨3,0,[c]⟩,1):=by
    rw [Lx.nextB_eq,if_neg (by rcases hc with rfl | rfl | rfl | rfl | rfl<;>decide),if_neg (by rcases hc with rfl | rfl | rfl | rfl | rfl<;>decide),if_neg (fun e=>by rw [e.1] at h;revert h;decide),if_pos h]
  rw [bs_tok (by rcases hc with rfl | rfl | rfl | rfl | rfl<;>decide) (by rcases hc with rfl | rfl | rfl | rfl | rfl<;>decide) hn]
  rfl
theorem bs_set (y:List UInt8):bs (58::61::y)=(bs y).map (⟨3,0,[58,61]⟩::·):=by
  have hn:nextB (58::61::y)=some (⟨3,0,[58,61]⟩,2):=by
    rw [Lx.nextB_eq,if_neg (by decide),if_neg (by decide),if_pos ⟨rfl,rfl⟩]
  rw [bs_tok (by decide) (by decide) hn]
  rfl
end Ps
namespace Ps
open Lx (B toks nextB skip isL isD isS isSp)
def W (s:List UInt8):B:=⟨1,0,s⟩
def S (s:List UInt8):B:=⟨3,0,s⟩
def Nm (v:Int):B:=⟨2,v,[]⟩
end Ps
set_option linter.unusedSimpArgs false
namespace Ps
open Lx (B)
end Ps
open Go.Sx Go.RowKit Go.ChangeShapes Go.WideShapes
theorem dW {x:Int} (h:(Lit.int .i64 x).wf=true) : -9223372036854775808≤x∧x≤9223372036854775807:=by
  have e1:IntKind.i64.min = -9223372036854775808:=by decide
  have e2:IntKind.i64.max=9223372036854775807:=by decide
  simp only [Lit.wf,e1,e2,Bool.and_eq_true,decide_eq_true_eq] at h
  exact h
theorem mP {H:Type}:∀ (l:List Pd.T) (es:List (DataW H × List MemPlace)),l.length=es.length→(∀ (i:Nat) (p:Pd.T) (e:DataW H × List MemPlace),l[i]?=some p→es[i]?=some e→Pd.size p≤Rows.uptoBulk e.1)→Pd.sizeL l≤Rows.uptoBulkAll (es.map (·.1))
  | [],_,_,_=>by rw [Pd.sizeL];exact Nat.zero_le _
  | p::l,[],h,_=>by simp at h
  | p::l,e::es,h,hi=>by
    have h1:=hi 0 p e rfl rfl
    have h2:=mP l es (by simpa using h) fun i q f hq hf=>hi (i+1) q f (by simpa using hq) (by simpa using hf)
    rw [Pd.sizeL,List.map_cons,Rows.uptoBulkAll]
    omega
section
variable {H:Type} {enc:TypeId × Value→H} {W:World} {spare:Nat→Bool} {held:Bool}
theorem oV (t tS:TypeId) (fs:Array Field) (hT:Tryz.prog.underlying t=some (.struct fs)) (hS:Tryz.prog.underlying tS=some (.slice t)) (ti:TypeId) (hI:Tryz.prog.underlying ti=some (.int .i64))
    (hfs:fs.toList.map (fun f=>(f.type,f.offset))=[(ti,0),(ti,1),(ti,2),(tS,3)]) (hc:Tryz.prog.cellsOf t=4) (hci:Tryz.prog.cellsOf ti=1) (hcs:Tryz.prog.cellsOf tS=1) :
    ∀ (N fuel:Nat) (cs:List Value) (x:DataW H × List MemPlace),fuel≤N→DataW.trod enc Tryz.prog W 0 spare held fuel t cs=some x→∃ p:Pd.T,Pd.R (bZ W) p cs∧Pd.in64 p∧Pd.size p≤Rows.uptoBulk x.1
  | 0,fuel,cs,x,hN,hx=>by
    obtain ⟨xs,n,h1,_⟩:=DataW.trod_struct hT hx
    omega
  | N+1,fuel,cs,x,hN,hx=>by
    obtain ⟨xs,n,h1,h2,hlen,hxl,hf⟩:=DataW.trod_struct hT hx
    have hfs4:fs.size=4:=by have:=congrArg List.length hfs;simpa using this
    have hat:∀ i (hi:i<4),∃ f,fs[i]?=some f∧(f.type,f.offset)=[(ti,0),(ti,1),(ti,2),(tS,3)][i]:=fun i hi=>by
      have hi':i<fs.size:=by omega
      refine ⟨fs[i],Array.getElem?_eq_getElem hi',?_⟩
      have:=congrArg (fun l=>l[i]?) hfs
      simp only [List.getElem?_map,Array.getElem?_toList,Array.getElem?_eq_getElem hi',Option.map_some,List.getElem?_eq_getElem (show i<[(ti,0),(ti,1),(ti,2),(tS,3)].length by simpa using hi),Option.some.injEq] at this
      exact this
    match cs,(hlen.trans hc) with
    | [c0,c1,c2,c3],_ =>
      match xs,(hxl.trans hfs4) with
      | [x0,x1,x2,x3],_ =>
        obtain ⟨f0,g0,e0⟩:=hat 0 (by decide)
        obtain ⟨f1,g1,e1⟩:=hat 1 (by decide)
        obtain ⟨f2,g2,e2⟩:=hat 2 (by decide)
        obtain ⟨f3,g3,e3⟩:=hat 3 (by decide)
        simp only [List.getElem_cons_zero,List.getElem_cons_succ,Prod.mk.injEq] at e0 e1 e2 e3
        have t0:=hf 0 f0 g0
        have t1:=hf 1 f1 g1
        have t2:=hf 2 f2 g2
        have t3:=hf 3 f3 g3
        rw [e0.1,e0.2,hci] at t0
        rw [e1.1,e1.2,hci] at t1
        rw [e2.1,e2.2,hci] at t2
        rw [e3.1,e3.2,hcs] at t3
        simp only [List.drop_zero,List.take_succ_cons,List.take_zero,List.drop_succ_cons,List.getElem?_cons_zero,List.getElem?_cons_succ] at t0 t1 t2 t3
        obtain ⟨k,ek,_,wk⟩:=DataW.trod_int hI t0
        obtain ⟨a,ea,_,wa⟩:=DataW.trod_int hI t1
        obtain ⟨v,ev,_,wv⟩:=DataW.trod_int hI t2
        cases ek
        cases ea
        cases ev
        rcases DataW.trod_slice hS t3 with ⟨es,_⟩ | ⟨b,len,cap,elems,rest,n',hn',es,ex3,_,hl,hm,hel,hat',_⟩
        · cases es
          refine ⟨.mk k a v [],Pd.R.of (p:=.mk k a v []) (A:=none) (cap:=0) aI.nil,by simp only [Pd.in64,Pd.in64L,and_true];exact ⟨dW wk,dW wa,dW wv⟩,?_⟩
          rw [Pd.size,Pd.sizeL,h2]
          simp only [Rows.uptoBulk]
          omega
        · cases es
          have hel2:∀ i,i<len→∃ p:Pd.T,(∃ cs',cs'.length=4∧CellsF (bZ W) b (i*4) cs'∧Pd.R (bZ W) p cs')∧Pd.in64 p∧∀ e,elems[i]?=some e→Pd.size p≤Rows.uptoBulk e.1:=fun i hi=>by
            have h1:=hat' i hi
            rw [List.getElem?_eq_getElem (by omega),Option.bind_eq_some_iff] at h1
            obtain ⟨cs',h3,h4⟩:=h1
            obtain ⟨p,h5,h6,h7⟩:=oV t tS fs hT hS ti hI hfs hc hci hcs N n' cs' _ (by omega) h4
            obtain ⟨_,h8,h9⟩:=World.cells?_some h3
            rw [hc] at h8 h9
            refine ⟨p,⟨cs',by omega,ez cs' _ fun j u hj=>?_,h5⟩,h6,fun e he=>?_⟩
            · have:=h9 j (by have:=(List.getElem?_eq_some_iff.1 hj).1;omega)
              rw [au] at this
              exact this.trans hj
            · rw [List.getElem?_eq_getElem (by omega)] at he
              cases he
              exact h7
          obtain ⟨l,hll,hl2⟩:=mJ hel2
          subst hll
          have hrow:Pd.Row (bZ W) (.slice (some b) l.length cap) l:=⟨⟨some b,cap,rfl,hl,by simp⟩,fun i p hp=>by
            obtain ⟨⟨cs',h3,h4,h5⟩,_⟩:=hl2 i p hp
            exact ⟨cs',h5,h3,h4⟩⟩
          refine ⟨.mk k a v l,Pd.R.of (p:=.mk k a v l) (A:=some b) (cap:=cap) hrow,?_,?_⟩
          · simp only [Pd.in64,Pd.in64L_iff]
            refine ⟨⟨dW wk,dW wa,dW wv⟩,fun p hp=>?_⟩
            obtain ⟨i,hi⟩:=List.getElem?_of_mem hp
            exact (hl2 i p hi).2.1
          · have hb:=mP l elems hel.symm fun i p e hp he=>(hl2 i p hp).2.2 e he
            have e3':x3.1 = .slice (elems.map (·.1)) (rest.map (·.1)):=by rw [ex3]
            rw [Pd.size,h2]
            simp only [List.map_cons,List.map_nil,Rows.uptoBulk,Rows.uptoBulkAll,e3']
            omega
end
end Go.Proofs.YtmehinfgdcmmjaaGreatDoor
