import Derived.Test.YtaolcaggdddkpaaGreatJ2
import Derived.Test.YtaolcaggdddkpaaGreatJ1
namespace Go.Proofs.YtaolcaggdddkpaaGreat
open Go.Sx
set_option maxRecDepth 20000
set_option linter.unusedVariables false
namespace Po
def zero:T:=.mk 0 noneP 0 0 []
mutual
def spec (sw:Int):T→T
 | .mk k p f v l=>if k=5∧(Pd.cut sw p).k≤2 then (specL sw l)[((Pd.cut sw p).k - 1).toNat]?.getD zero else .mk k (if k=1∨k=5 then Pd.cut sw p else noneP) f v (specL sw l)
def specL (sw:Int):List T→List T
 | []=>[]
 | x::l=>spec sw x::specL sw l
end
theorem specL_map (sw:Int) (l:List T):specL sw l=l.map (spec sw):=by
 induction l with
 | nil=>rfl
 | cons p l ih=>rw [specL,ih];rfl
theorem spec_mk (sw k:Int) (p:Pd.T) (f v:Int) (l:List T):spec sw (.mk k p f v l)=if k=5∧(Pd.cut sw p).k≤2 then (l.map (spec sw))[((Pd.cut sw p).k - 1).toNat]?.getD zero else .mk k (if k=1∨k=5 then Pd.cut sw p else noneP) f v (l.map (spec sw)):=by
 rw [spec.eq_def];simp only [specL_map]
theorem fits_iff {k:Int} {p:Pd.T} {f v:Int} {l:List T}:fits (.mk k p f v l)=true↔(k=1∧Pd.right p=true∧(f=0∧v=0)∧l.length=0∨k=2∧p=noneP∧(0≤f∧f≤4)∧(0≤v∧v≤Pd.top f)∧l.length=0∨(k=3∨k=4)∧p=noneP∧(f=0∧v=0)∧2≤l.length∧l.length≤8∨k=5∧Pd.right p=true∧(f=0∧v=0)∧l.length=2)∧∀ x∈l,fits x=true:=by
 have hl:fitsL l=true↔∀ x∈l,fits x=true:=by
  induction l with
  | nil=>simp [fitsL]
  | cons x l ih=>simp only [fitsL,Bool.and_eq_true,ih,List.mem_cons,forall_eq_or_imp]
 have hn:none p=true↔p=noneP:=Pd.same_eq _ _
 rw [fits,Bool.and_eq_true,hl]
 unfold shape
 rw [decide_eq_true_eq,hn]
theorem right_fits' {x:T} (h:right x=true):fits x=true:=by
 unfold right at h
 simp only [Bool.and_eq_true] at h
 exact h.1
end Po
namespace Pd
theorem mem_valsL {g v:Int} {l:List T}:v∈valsL g l↔∃ x∈l,v∈vals g x:=by
 induction l with
 | nil=>simp [valsL]
 | cons x l ih=>simp only [valsL,List.mem_append,ih,List.mem_cons,exists_eq_or_imp]
theorem fold_sub {g w k f v out d:Int} {l:List T} (hk:k=5∨k=6) (hd:d=1∨d=2) (ho:out=1∨out=2) (h:w∈vals g (fold k f v out d l)):∃ x∈l,w∈vals g x:=by
 unfold fold at h
 split at h
 ·rw [vals_mk,if_neg (by omega)] at h;simp [valsL] at h
 ·have hf:∀ x∈l.filter (fun x=>!decide (x.k=out)),x∈l:=fun x hx=>(List.mem_filter.1 hx).1
  split at h
  ·rw [vals_mk,if_neg (by omega)] at h;simp [valsL] at h
  ·rename_i x e;rw [e] at hf;exact ⟨x,hf x (by simp),h⟩
  ·rename_i x y r e
   rw [e] at hf
   rw [vals_mk,if_neg (by omega),List.nil_append,mem_valsL] at h
   obtain ⟨z,hz,hw⟩:=h
   exact ⟨z,hf z hz,hw⟩
theorem cut_sub (sw g w:Int):∀ (n:Nat) (p:T),size p≤n→fits p=true→w∈vals g (cut sw p)→w∈vals g p
 | 0,p,hn,_,_=>absurd (size_pos p) (by omega)
 | n+1,⟨k,f,v,l⟩,hn,h,hw=>by
  have ih:∀ y∈l,w∈vals g (cut sw y)→w∈vals g y:=fun y hy=>cut_sub sw g w n y (by have:=size_lt (k:=k) (f:=f) (v:=v) hy;omega) ((fits_mk'.1 h).2 y hy)
  have hm:(∃ x∈l.map (cut sw),w∈vals g x)→w∈vals g (.mk k f v l):=fun ⟨x,hx,hv⟩=>by
   obtain ⟨y,hy,rfl⟩:=List.mem_map.1 hx
   rw [vals_mk,List.mem_append,mem_valsL]
   exact .inr ⟨y,hy,ih y hy hv⟩
  have hsh:=(fits_mk'.1 h).1
  by_cases h35:k=3∧f=5
  ·obtain ⟨rfl,rfl⟩:=h35
   rw [cut_sw] at hw
   split at hw<;>simp [vals,valsL] at hw
  by_cases h5:k=5
  ·subst h5
   rw [cut_5] at hw
   exact hm (fold_sub (.inl rfl) (.inr rfl) (.inl rfl) hw)
  by_cases h6:k=6
  ·subst h6
   rw [cut_6] at hw
   exact hm (fold_sub (.inr rfl) (.inl rfl) (.inr rfl) hw)
  by_cases h4:k=4
  ·subst h4
   obtain ⟨rfl,rfl,hl1⟩:f=0∧v=0∧l.length=1:=by omega
   match l,hl1 with
   | [q],_ =>
    rw [cut_4] at hw
    split at hw
    ·split at hw<;>simp [vals,valsL] at hw
    ·rw [vals_mk,List.mem_append,mem_valsL] at hw
     rcases hw with hw | hw
     ·simp at hw
     ·obtain ⟨x,hx,hv⟩:=hw
      rw [List.mem_singleton.1 hx] at hv
      exact hm ⟨_,by simp,hv⟩
  ·have hl0:l=[]:=List.eq_nil_of_length_eq_zero (by omega)
   subst hl0
   rw [cut_no _ _ _ _ h35 (by omega)] at hw
   exact hw
theorem cut_size (sw:Int) (p:T) (h:fits p=true):size (cut sw p)≤size p:=(cut_facts ⟨sw,0,0,0,0,0⟩ _ p (Nat.le_refl _) h).2.1
end Pd
namespace Po
theorem size_mk (k:Int) (p:Pd.T) (f v:Int) (l:List T):size (.mk k p f v l)=1+(if k=2∨k=3∨k=4 then 0 else Pd.size p)+sizeL l:=by rw [size]
theorem deep_mk (k:Int) (p:Pd.T) (f v:Int) (l:List T):deep (.mk k p f v l)=1+deepL l:=by rw [deep]
theorem vals_mk (g k:Int) (p:Pd.T) (f v:Int) (l:List T):vals g (.mk k p f v l)=(if k=2∧f=g then [v] else [])++(Pd.values g p++valsL g l):=by rw [vals,List.append_assoc]
theorem mem_valsL {g v:Int} {l:List T}:v∈valsL g l↔∃ x∈l,v∈vals g x:=by
 induction l with
 | nil=>simp [valsL]
 | cons x l ih=>simp only [valsL,List.mem_append,ih,List.mem_cons,exists_eq_or_imp]
theorem mem_le {x:T} {l:List T} (h:x∈l):tot x≤totL l∧size x≤sizeL l∧deep x≤deepL l:=by
 induction l with
 | nil=>cases h
 | cons y l ih =>
  simp only [totL,sizeL,deepL]
  rcases List.mem_cons.1 h with rfl | h
  ·omega
  ·have:=ih h;omega
theorem wide_mono {a b:List T} (h:a.length=b.length) (hw:∀ (i:Nat) (x y:T),a[i]?=some x→b[i]?=some y→wide x≤wide y) :
  (∀ n m,n≤m→wideS n a≤wideS m b)∧(∀ n m,n≤m→wideU n a≤wideU m b)∧∀ n m,n≤m→wideI n a≤wideI m b:=by
 induction a generalizing b with
 | nil=>cases b with
  | nil=>exact ⟨fun n m h=>h,fun n m h=>h,fun n m h=>h⟩
  | cons y b=>simp at h
 | cons x a ih=>cases b with
  | nil=>simp at h
  | cons y b =>
   obtain ⟨h1,h2,h3⟩:=ih (b:=b) (by simpa using h) fun i u v hu hv=>hw (i+1) u v (by simpa using hu) (by simpa using hv)
   have h0:=hw 0 x y rfl rfl
   refine ⟨fun n m hnm=>?_,fun n m hnm=>?_,fun n m hnm=>?_⟩
   ·rw [wideS,wideS]
    refine h1 _ _ ?_
    have:=Nat.mul_le_mul hnm h0
    omega
   ·rw [wideU,wideU];exact h2 _ _ (by omega)
   ·rw [wideI,wideI];exact h3 _ _ (by omega)
theorem wideI_ge:∀ (l:List T) (n:Nat),n≤wideI n l∧∀ x∈l,wide x≤wideI n l
 | [],n=>⟨Nat.le_refl _,fun x hx=>by cases hx⟩
 | y::l,n=>by
  obtain ⟨h1,h2⟩:=wideI_ge l (max n (wide y))
  rw [wideI]
  refine ⟨by omega,fun x hx=>?_⟩
  rcases List.mem_cons.1 hx with rfl | hx
  ·omega
  ·exact h2 x hx
theorem wide_mk (k:Int) (p:Pd.T) (f v:Int) (l:List T):wide (.mk k p f v l)=if k=3 then wideS 1 l else if k=4 then wideU 0 l else if k=5 then wideI 0 l else 1:=by rw [wide]
theorem none_vals (g:Int):Pd.values g noneP=[]:=by
 apply List.eq_nil_iff_forall_not_mem.2
 intro w hw
 rw [Pd.values_mem] at hw
 unfold noneP at hw
 rw [Pd.vals_mk] at hw
 simp [Pd.valsL] at hw
theorem spec_facts (sw:Int):∀ (n:Nat) (x:T),tot x≤n→fits x=true→fits (spec sw x)=true∧tot (spec sw x)≤tot x∧size (spec sw x)≤size x∧deep (spec sw x)≤deep x∧wide (spec sw x)≤wide x∧vals 5 (spec sw x)=[]∧∀ g w,w∈vals g (spec sw x)→w∈vals g x
 | 0,x,hn,_=>absurd (tot_pos x) (by omega)
 | n+1,⟨k,p,f,v,l⟩,hn,h=>by
  obtain ⟨hsh,hfl⟩:=fits_iff.1 h
  have ih:∀ y∈l,_:=fun y hy=>spec_facts sw n y (by have:=tot_lt (k:=k) (q:=p) (f:=f) (v:=v) hy;omega) (hfl y hy)
  have hfm:∀ y∈l.map (spec sw),fits y=true:=fun y hy=>by obtain ⟨z,hz,rfl⟩:=List.mem_map.1 hy;exact (ih z hz).1
  have htm:totL (l.map (spec sw))≤totL l∧sizeL (l.map (spec sw))≤sizeL l∧deepL (l.map (spec sw))≤deepL l:=by
   clear hn h hsh hfl hfm
   induction l with
   | nil=>simp [totL,sizeL,deepL]
   | cons y l ihl =>
    obtain ⟨h1,h2,h3⟩:=ihl fun z hz=>ih z (List.mem_cons_of_mem _ hz)
    obtain ⟨_,h4,h5,h6,_⟩:=ih y (by simp)
    simp only [List.map_cons,totL,sizeL,deepL]
    omega
  have hv5:valsL 5 (l.map (spec sw))=[]:=by
   apply List.eq_nil_iff_forall_not_mem.2
   intro w hw
   obtain ⟨x,hx,hv⟩:=mem_valsL.1 hw
   obtain ⟨z,hz,rfl⟩:=List.mem_map.1 hx
   rw [(ih z hz).2.2.2.2.2.1] at hv
   cases hv
  have hvs:∀ g w,w∈valsL g (l.map (spec sw))→w∈valsL g l:=fun g w hw=>by
   obtain ⟨x,hx,hv⟩:=mem_valsL.1 hw
   obtain ⟨z,hz,rfl⟩:=List.mem_map.1 hx
   exact mem_valsL.2 ⟨z,hz,(ih z hz).2.2.2.2.2.2 g w hv⟩
  obtain ⟨w1,w2,w3⟩:=wide_mono (a:=l.map (spec sw)) (b:=l) (by simp) fun i a b ha hb=>by
   rw [List.getElem?_map,hb] at ha
   simp only [Option.map_some,Option.some.injEq] at ha
   rw [← ha]
   exact (ih b (List.mem_of_getElem? hb)).2.2.2.2.1
  have w1:=w1 1 1 (Nat.le_refl _)
  have w2:=w2 0 0 (Nat.le_refl _)
  have w3:=w3 0 0 (Nat.le_refl _)
  rw [spec_mk]
  rcases hsh with ⟨rfl,hr,⟨rfl,rfl⟩,hl⟩ | ⟨rfl,rfl,hf1,hv1,hl⟩ | ⟨hk,rfl,⟨rfl,rfl⟩,hl1,hl2⟩ | ⟨rfl,hr,⟨rfl,rfl⟩,hl⟩
  ·obtain rfl:=List.eq_nil_of_length_eq_zero hl
   have hpf:=right_fits hr
   have hsz:=Pd.cut_size sw p hpf
   rw [if_neg (fun h=>by omega),if_pos (.inl rfl),size_mk,size_mk,tot_mk,tot_mk]
   refine ⟨fits_iff.2 ⟨.inl ⟨rfl,Pd.cut_right ⟨sw,0,0,0,0,0⟩ p hr,⟨rfl,rfl⟩,rfl⟩,fun y hy=>by simp at hy⟩,by simp only [List.map_nil];omega,by simp only [List.map_nil];simp;omega,Nat.le_refl _,Nat.le_refl _,?_,fun g w hw=>?_⟩
   ·rw [vals_mk,if_neg (by omega)]
    simp only [List.map_nil,valsL,List.append_nil,List.nil_append]
    apply List.eq_nil_iff_forall_not_mem.2
    intro w hw
    rw [Pd.values_mem,Pd.cut_vals sw p hpf] at hw
    cases hw
   ·rw [vals_mk,if_neg (by omega)] at hw ⊢
    simp only [List.map_nil,valsL,List.append_nil,List.nil_append,Pd.values_mem] at hw ⊢
    exact Pd.cut_sub sw g w _ p (Nat.le_refl _) hpf hw
  ·obtain rfl:=List.eq_nil_of_length_eq_zero hl
   rw [if_neg (fun h=>by omega),if_neg (fun h=>by omega)]
   refine ⟨h,Nat.le_refl _,Nat.le_refl _,Nat.le_refl _,Nat.le_refl _,?_,fun g w hw=>hw⟩
   rw [vals_mk,if_neg (by omega),none_vals]
   rfl
  ·rw [if_neg (fun h=>by omega),if_neg (fun h=>by omega),size_mk,size_mk,tot_mk,tot_mk,deep_mk,deep_mk,wide_mk,wide_mk]
   refine ⟨fits_iff.2 ⟨.inr (.inr (.inl ⟨hk,rfl,⟨rfl,rfl⟩,by simpa using hl1,by simpa using hl2⟩)),hfm⟩,by omega,by split<;>omega,by omega,by rcases hk with rfl | rfl<;>simp<;>omega,?_,fun g w hw=>?_⟩
   ·rw [vals_mk,if_neg (by omega),none_vals,hv5];rfl
   ·rw [vals_mk,if_neg (by omega),none_vals] at hw ⊢
    exact hvs g w hw
  ·have hpf:=right_fits hr
   have hsz:=Pd.cut_size sw p hpf
   have hk:=Pd.fits_k (Pd.cut_fits sw p hpf)
   match l,hl with
   | [a,b],_ =>
   have e1:=tot_mk 5 p 0 0 [a,b]
   have e2:=size_mk 5 p 0 0 [a,b]
   have e3:=deep_mk 5 p 0 0 [a,b]
   have e4:=wide_mk 5 p 0 0 [a,b]
   rw [if_neg (by decide),if_neg (by decide),if_pos rfl] at e4
   rw [if_neg (by decide)] at e2
   by_cases hc:(5:Int)=5∧(Pd.cut sw p).k≤2
   ·rw [if_pos hc]
    have hsel:∀ y∈[a,b],fits (spec sw y)=true∧tot (spec sw y)≤tot (.mk 5 p 0 0 [a,b])∧size (spec sw y)≤size (.mk 5 p 0 0 [a,b])∧deep (spec sw y)≤deep (.mk 5 p 0 0 [a,b])∧wide (spec sw y)≤wide (.mk 5 p 0 0 [a,b])∧vals 5 (spec sw y)=[]∧∀ g w,w∈vals g (spec sw y)→w∈vals g (.mk 5 p 0 0 [a,b]):=fun y hy=>by
     obtain ⟨g1,g2,g3,g4,g5,g6,g7⟩:=ih y hy
     obtain ⟨m1,m2,m3⟩:=mem_le hy
     have m4:=(wideI_ge [a,b] 0).2 y hy
     refine ⟨g1,by omega,by omega,by omega,by omega,g6,fun g w hw=>?_⟩
     rw [vals_mk,List.mem_append,List.mem_append,mem_valsL]
     exact .inr (.inr ⟨y,hy,g7 g w hw⟩)
    by_cases hq:(Pd.cut sw p).k=1
    ·rw [hq];exact hsel a (by simp)
    ·rw [show (Pd.cut sw p).k=2 by omega];exact hsel b (by simp)
   ·rw [if_neg hc,if_pos (.inr rfl),size_mk,tot_mk,deep_mk,wide_mk,if_neg (by decide),if_neg (by decide),if_pos rfl,if_neg (by decide),e1,e2,e3,e4]
    refine ⟨fits_iff.2 ⟨.inr (.inr (.inr ⟨rfl,Pd.cut_right ⟨sw,0,0,0,0,0⟩ p hr,⟨rfl,rfl⟩,rfl⟩)),hfm⟩,by omega,by omega,by omega,w3,?_,fun g w hw=>?_⟩
    ·rw [vals_mk,if_neg (by omega),hv5,List.append_nil,List.nil_append]
     apply List.eq_nil_iff_forall_not_mem.2
     intro w hw
     rw [Pd.values_mem,Pd.cut_vals sw p hpf] at hw
     cases hw
    ·rw [vals_mk,if_neg (by omega),List.nil_append,List.mem_append] at hw ⊢
     rcases hw with hw | hw
     ·rw [Pd.values_mem] at hw ⊢
      exact .inl (Pd.cut_sub sw g w _ p (Nat.le_refl _) hpf hw)
     ·exact .inr (hvs g w hw)
theorem spec_fits (sw:Int) (x:T) (h:fits x=true):fits (spec sw x)=true:=(spec_facts sw _ x (Nat.le_refl _) h).1
theorem spec_tot (sw:Int) (x:T) (h:fits x=true):tot (spec sw x)≤tot x:=(spec_facts sw _ x (Nat.le_refl _) h).2.1
theorem spec_right (sw:Int) (x:T) (h:right x=true):right (spec sw x)=true:=by
 unfold right at h ⊢
 simp only [Bool.and_eq_true,decide_eq_true_eq] at h ⊢
 obtain ⟨h1,_,h2,h3,h4,_⟩:=spec_facts sw _ x (Nat.le_refl _) h.1
 exact ⟨h1,by omega,by omega,by omega⟩
theorem nodup_len:∀ (a b:List Int),a.Nodup→(∀ x∈a,x∈b)→a.length≤b.length
 | [],_,_,_=>Nat.zero_le _
 | x::a,b,hn,hs=>by
  rw [List.nodup_cons] at hn
  have hx:x∈b:=hs x (by simp)
  have:=nodup_len a (b.erase x) hn.2 fun y hy=>(List.mem_erase_of_ne (fun e=>hn.1 (by rw [← e];exact hy))).2 (hs y (by simp [hy]))
  rw [List.length_erase_of_mem hx] at this
  have:=List.length_pos_of_mem hx
  rw [List.length_cons]
  omega
theorem values_nodup (f:Int) (x:T):(values f x).Nodup:=(values_rising f x).imp fun h=>by omega
theorem spec_vlen (sw f:Int) (x:T) (h:fits x=true):(values f (spec sw x)).length≤(values f x).length:=by
 refine nodup_len _ _ (values_nodup f (spec sw x)) fun w hw=>?_
 rw [values_mem] at hw ⊢
 exact (spec_facts sw _ x (Nat.le_refl _) h).2.2.2.2.2.2 f w hw
end Po
namespace Po
theorem ins_len (s:S) (l:List S):(ins s l).length≤l.length+1:=by
 induction l with
 | nil=>simp [ins]
 | cons x l ih =>
  unfold ins
  split
  ·simp
  ·split
   ·simp
   ·simp only [List.length_cons];omega
theorem both_len:∀ (b a:List S),(both a b).length≤a.length+b.length
 | [],a=>by simp [both]
 | x::b,a=>by
  have h1:=both_len b (ins x a)
  have h2:=ins_len x a
  unfold both at *
  rw [List.foldl_cons,List.length_cons]
  omega
theorem fold_len (sw:Int) (y:T) (w:Nat) (hw:∀ s,(runs sw y s).length≤w):∀ (out a:List S),(out.foldl (fun next t=>both next (runs sw y t)) a).length≤a.length+out.length*w
 | [],a=>by simp
 | x::out,a=>by
  have h1:=fold_len sw y w hw out (both a (runs sw y x))
  have h2:=both_len (runs sw y x) a
  have h3:=hw x
  rw [List.foldl_cons,List.length_cons,Nat.succ_mul]
  omega
theorem wide_pos:∀ (n:Nat) (x:T),tot x≤n→fits x=true→1≤wide x
 | 0,x,hn,_=>absurd (tot_pos x) (by omega)
 | n+1,⟨k,p,f,v,l⟩,hn,h=>by
  obtain ⟨hsh,hfl⟩:=fits_iff.1 h
  have ih:∀ y∈l,1≤wide y:=fun y hy=>wide_pos n y (by have:=tot_lt (k:=k) (q:=p) (f:=f) (v:=v) hy;omega) (hfl y hy)
  have hS:∀ (l:List T) (m:Nat),1≤m→(∀ y∈l,1≤wide y)→1≤wideS m l:=fun l=>by
   induction l with
   | nil=>intro m hm _;exact hm
   | cons y l ihl =>
    intro m hm hy
    rw [wideS]
    refine ihl _ ?_ fun z hz=>hy z (by simp [hz])
    have:=Nat.mul_le_mul hm (hy y (by simp))
    omega
  have hU:∀ (l:List T) (m:Nat),(l≠[]∨1≤m)→(∀ y∈l,1≤wide y)→1≤wideU m l:=fun l=>by
   induction l with
   | nil=>intro m hm _;exact hm.resolve_left fun h=>h rfl
   | cons y l ihl =>
    intro m hm hy
    rw [wideU]
    refine ihl _ (.inr ?_) fun z hz=>hy z (by simp [hz])
    have:=hy y (by simp)
    omega
  rw [wide_mk]
  rcases hsh with ⟨rfl,_,_,hl⟩ | ⟨rfl,_,_,_,hl⟩ | ⟨rfl | rfl,_,_,hl1,hl2⟩ | ⟨rfl,_,_,hl⟩
  ·simp
  ·simp
  ·simp;exact hS l 1 (Nat.le_refl _) ih
  ·simp;exact hU l 0 (.inl fun e=>by rw [e] at hl1;simp at hl1) ih
  ·simp
   match l,hl with
   | [a,b],_ =>
    have h1:=ih a (by simp)
    have h2:=(wideI_ge [a,b] 0).2 a (by simp)
    omega
theorem wideS_ge {l:List T} (hw:∀ y∈l,1≤wide y):∀ m,1000≤m→1000≤wideS m l:=by
 induction l with
 | nil=>intro m hm;exact hm
 | cons y l ih =>
  intro m hm
  rw [wideS]
  refine ih (fun z hz=>hw z (by simp [hz])) _ ?_
  have:=Nat.mul_le_mul hm (hw y (by simp))
  omega
theorem wideU_ge {l:List T}:∀ m,1000≤m→1000≤wideU m l:=by
 induction l with
 | nil=>intro m hm;exact hm
 | cons y l ih =>
  intro m hm
  rw [wideU]
  exact ih _ (by omega)
theorem runsQ_len (sw:Int):∀ (l:List T) (out:List S) (m:Nat),(∀ y∈l,∀ s,wide y<1000→(runs sw y s).length≤wide y)→(∀ y∈l,1≤wide y)→1≤m→out.length≤m→wideS m l<1000→(runsQ sw l out).length≤wideS m l
 | [],out,m,_,_,_,ho,_=>by rw [runsQ,wideS];exact ho
 | y::l,out,m,hy,hp,hm,ho,hw=>by
  rw [wideS] at hw ⊢
  rw [runsQ]
  have hlt:m*wide y<1000:=Classical.byContradiction fun hn=>by
   have:=wideS_ge (l:=l) (fun z hz=>hp z (by simp [hz])) (min (m*wide y) 1000) (by omega)
   omega
  have hyl:wide y<1000:=Nat.lt_of_le_of_lt (Nat.le_mul_of_pos_left _ hm) hlt
  have hmin:min (m*wide y) 1000=m*wide y:=by omega
  rw [hmin] at hw ⊢
  refine runsQ_len sw l _ _ (fun z hz=>hy z (by simp [hz])) (fun z hz=>hp z (by simp [hz])) (Nat.mul_le_mul hm (hp y (by simp))) ?_ hw
  have:=fold_len sw y (wide y) (fun s=>hy y (by simp) s hyl) out []
  have h2:=Nat.mul_le_mul_right (wide y) ho
  simp only [List.length_nil,Nat.zero_add] at this
  omega
theorem runsU_len (sw:Int) (s:S):∀ (l:List T) (out:List S) (m:Nat),(∀ y∈l,wide y<1000→(runs sw y s).length≤wide y)→out.length≤m→wideU m l<1000→(runsU sw l s out).length≤wideU m l
 | [],out,m,_,ho,_=>by rw [runsU,wideU];exact ho
 | y::l,out,m,hy,ho,hw=>by
  rw [wideU] at hw ⊢
  rw [runsU]
  have hlt:m+wide y<1000:=Classical.byContradiction fun hn=>by
   have:=wideU_ge (l:=l) (min (m+wide y) 1000) (by omega)
   omega
  have hmin:min (m+wide y) 1000=m+wide y:=by omega
  rw [hmin] at hw ⊢
  refine runsU_len sw s l _ _ (fun z hz=>hy z (by simp [hz])) ?_ hw
  have h1:=both_len (runs sw y s) out
  have h2:=hy y (by simp) (by omega)
  omega
theorem runs_len (sw:Int):∀ (n:Nat) (x:T),tot x≤n→fits x=true→∀ s,wide x<1000→(runs sw x s).length≤wide x
 | 0,x,hn,_=>absurd (tot_pos x) (by omega)
 | n+1,⟨k,p,f,v,l⟩,hn,h=>fun s hw=>by
  obtain ⟨hsh,hfl⟩:=fits_iff.1 h
  have ih:∀ y∈l,∀ s,wide y<1000→(runs sw y s).length≤wide y:=fun y hy=>runs_len sw n y (by have:=tot_lt (k:=k) (q:=p) (f:=f) (v:=v) hy;omega) (hfl y hy)
  have hp:∀ y∈l,1≤wide y:=fun y hy=>wide_pos _ y (Nat.le_refl _) (hfl y hy)
  rw [wide_mk] at hw ⊢
  rw [runs_mk]
  rcases hsh with ⟨rfl,_,_,hl⟩ | ⟨rfl,_,_,_,hl⟩ | ⟨rfl | rfl,_,_,hl1,hl2⟩ | ⟨rfl,_,_,hl⟩
  ·simp
   split<;>simp
  ·simp
  ·simp at hw ⊢
   exact runsQ_len sw l [s] 1 ih hp (Nat.le_refl _) (by simp) hw
  ·simp at hw ⊢
   exact runsU_len sw s l [] 0 (fun y hy=>ih y hy s) (by simp) hw
  ·simp at hw ⊢
   match l,hl with
   | [a,b],_ =>
    have h1:=(wideI_ge [a,b] 0).2 a (by simp)
    have h2:=(wideI_ge [a,b] 0).2 b (by simp)
    split
    ·rw [runsA];exact Nat.le_trans (ih a (by simp) s (by omega)) h1
    ·rw [runsB,runsA];exact Nat.le_trans (ih b (by simp) s (by omega)) h2
theorem runs_64 (sw:Int) (x:T) (h:right x=true) (s:S):(runs sw x s).length≤64:=by
 have hf:=right_fits' h
 unfold right at h
 simp only [Bool.and_eq_true,decide_eq_true_eq] at h
 exact Nat.le_trans (runs_len sw _ x (Nat.le_refl _) hf s (by omega)) h.2.2.2
end Po
end Go.Proofs.YtaolcaggdddkpaaGreat
