import Derived.Test.YtaolcaggdddkpaaGreatJ3
import Derived.Test.YtaolcaggdddkpaaGreatJ9
import Derived.Test.YtaolcaggdddkpaaGreatJ19
import Derived.Test.YtaolcaggdddkpaaGreatJ16
namespace Go.Proofs.YtaolcaggdddkpaaGreat
open Go.Sx
set_option maxRecDepth 20000
set_option linter.unusedVariables false
namespace Po
theorem wideS_min {l:List T} (hp:∀ y∈l,1≤wide y):∀ m,min m 1000≤wideS m l:=by
 induction l with
 | nil=>intro m;rw [wideS];exact Nat.min_le_left _ _
 | cons y l ih =>
  intro m
  have h:=ih (fun z hz=>hp z (by simp [hz])) (min (m*wide y) 1000)
  have h2:=Nat.mul_le_mul_left m (hp y (by simp))
  rw [wideS]
  omega
theorem wideU_min {l:List T}:∀ m,min m 1000≤wideU m l:=by
 induction l with
 | nil=>intro m;rw [wideU];exact Nat.min_le_left _ _
 | cons y l ih =>
  intro m
  have h:=ih (min (m+wide y) 1000)
  rw [wideU]
  omega
theorem wideS_pre {l:List T} (hp:∀ y∈l,1≤wide y) (i:Nat):wideS 1 (l.take i)≤wideS 1 l:=by
 have h:=wideS_append (l.take i) (l.drop i) 1
 rw [List.take_append_drop] at h
 have h2:=wideS_min (l:=l.drop i) (fun z hz=>hp z (List.mem_of_mem_drop hz)) (wideS 1 (l.take i))
 have h3:=wideS_le (l.take i) 1 (by decide)
 omega
theorem wideU_pre {l:List T} (i:Nat):wideU 0 (l.take i)≤wideU 0 l:=by
 have h:=wideU_append (l.take i) (l.drop i) 0
 rw [List.take_append_drop] at h
 have h2:=wideU_min (l:=l.drop i) (wideU 0 (l.take i))
 have h3:=wideU_le (l.take i) 0 (by decide)
 omega
theorem wideS_one {l:List T} (hp:∀ y∈l,1≤wide y) {i:Nat} (h:i<l.length):wide l[i]≤wideS 1 l:=by
 have h1:=wideS_pre hp (i+1)
 rw [wideS_take 1 h] at h1
 have h2:=wideS_min (l:=l.take i) (fun z hz=>hp z (List.mem_of_mem_take hz)) 1
 have h3:=wide_le l[i]
 have h4:=Nat.mul_le_mul_right (wide l[i]) (show 1≤wideS 1 (l.take i) by omega)
 omega
theorem wideU_one {l:List T} {i:Nat} (h:i<l.length):wide l[i]≤wideU 0 l:=by
 have h1:=wideU_pre (l:=l) (i+1)
 rw [wideU_take 0 h] at h1
 have h3:=wide_le l[i]
 omega
theorem seq_parts (sw k:Int) {p:Pd.T} {f v:Int} {l:List T} (h:fits (.mk 3 p f v l)=true) (hw:wide (.mk 3 p f v l)<1000) (s:S):(∀ i,(runsQ sw (l.take i) [s]).length<1000)∧∀ i (hi:i<l.length),wide l[i]<1000∧∀ s,(runs sw l[i] s).length≤wide l[i]:=by
 obtain ⟨_,hfl⟩:=fits_iff.1 h
 have hp:∀ y∈l,1≤wide y:=fun y hy=>wide_pos _ y (Nat.le_refl _) (hfl y hy)
 have hr:∀ y∈l,∀ s,wide y<1000→(runs sw y s).length≤wide y:=fun y hy=>runs_len sw _ y (Nat.le_refl _) (hfl y hy)
 rw [wide_mk,if_pos rfl] at hw
 refine ⟨fun i=>?_,fun i hi=>?_⟩
 ·have h1:=wideS_pre hp i
  have:=runsQ_len sw (l.take i) [s] 1 (fun y hy=>hr y (List.mem_of_mem_take hy)) (fun y hy=>hp y (List.mem_of_mem_take hy)) (Nat.le_refl _) (by simp) (by omega)
  omega
 ·have h1:=wideS_one hp hi
  exact ⟨by omega,fun s=>hr _ (List.getElem_mem hi) s (by omega)⟩
theorem uni_parts (sw:Int) {p:Pd.T} {f v:Int} {l:List T} (h:fits (.mk 4 p f v l)=true) (hw:wide (.mk 4 p f v l)<1000) (s:S):(∀ i,(runsU sw (l.take i) s []).length<1000)∧∀ i (hi:i<l.length),wide l[i]<1000∧∀ s,(runs sw l[i] s).length≤wide l[i]:=by
 obtain ⟨_,hfl⟩:=fits_iff.1 h
 have hr:∀ y∈l,∀ s,wide y<1000→(runs sw y s).length≤wide y:=fun y hy=>runs_len sw _ y (Nat.le_refl _) (hfl y hy)
 rw [wide_mk,if_neg (by decide),if_pos rfl] at hw
 refine ⟨fun i=>?_,fun i hi=>?_⟩
 ·have h1:=wideU_pre (l:=l) i
  have:=runsU_len sw s (l.take i) [] 0 (fun y hy=>hr y (List.mem_of_mem_take hy) s) (by simp) (by omega)
  omega
 ·have h1:=wideU_one hi
  exact ⟨by omega,fun s=>hr _ (List.getElem_mem hi) s (by omega)⟩
theorem if_parts {p:Pd.T} {f v:Int} {a b:T} (hw:wide (.mk 5 p f v [a,b])<1000):wide a<1000∧wide b<1000:=by
 rw [wide_mk,if_neg (by decide),if_neg (by decide),if_pos rfl] at hw
 have h1:=(wideI_ge [a,b] 0).2 a (by simp)
 have h2:=(wideI_ge [a,b] 0).2 b (by simp)
 omega
theorem runs_k3 (sw f v:Int) (p:Pd.T) (l:List T) (t:S):runs sw (.mk 3 p f v l) t=runsQ sw l [t]:=by rw [runs_mk];simp
theorem runs_k4 (sw f v:Int) (p:Pd.T) (l:List T) (t:S):runs sw (.mk 4 p f v l) t=runsU sw l t []:=by rw [runs_mk];simp
theorem runs_k5 (sw f v:Int) (p:Pd.T) (a b:T) (t:S):runs sw (.mk 5 p f v [a,b]) t=if Pd.hits (t.at_ sw) p=true then runs sw a t else runs sw b t:=by rw [runs_mk,runsA,runsB,runsA];simp
theorem runsU_nil (sw:Int) (t:S):runsU sw ([]:List T) t []=[]:=by rw [runsU]
theorem fold_take (sw:Int) (y:T) {out:List S} {k:Nat} (h:k<out.length):(out.take (k+1)).foldl (fun next t=>both next (runs sw y t)) []=both ((out.take k).foldl (fun next t=>both next (runs sw y t)) []) (runs sw y out[k]):=by
 rw [List.take_add_one,List.getElem?_eq_getElem h,Option.toList_some,List.foldl_append];rfl
theorem both_take (a:List S) {b:List S} {k:Nat} (h:k<b.length):both a (b.take (k+1))=ins b[k] (both a (b.take k)):=by
 unfold both
 rw [List.take_add_one,List.getElem?_eq_getElem h,Option.toList_some,List.foldl_append];rfl
end Po
set_option linter.unusedSimpArgs false
set_option maxHeartbeats 4000000
namespace Pd
theorem cnt_le (x:At) (l:List T):cnt x l≤l.length:=by unfold cnt;exact List.length_filter_le _ _
theorem cnt_append (x:At) (a b:List T):cnt x (a++b)=cnt x a+cnt x b:=by unfold cnt;rw [List.filter_append,List.length_append]
theorem cnt_take (x:At) {l:List T} {k:Nat} (h:k<l.length):cnt x (l.take (k+1))=cnt x (l.take k)+(if hits x l[k]=true then 1 else 0):=by
 rw [List.take_add_one,List.getElem?_eq_getElem h,cnt_append]
 congr 1
 unfold cnt
 cases hh:hits x l[k]<;>simp [hh]
theorem cnt_all (x:At) (l:List T):hitsAll x l=decide (cnt x l=l.length):=by
 induction l with
 | nil=>simp [hitsAll,cnt]
 | cons p l ih =>
  have h1:=cnt_le x l
  have e:cnt x (p::l)=(if hits x p=true then 1 else 0)+cnt x l:=by
   unfold cnt
   cases hh:hits x p<;>simp [hh]
   omega
  rw [hitsAll,ih,e,List.length_cons]
  cases hits x p
  ·simp;omega
  ·simp;omega
theorem cnt_none (x:At) (l:List T):(!hitsNone x l)=decide (0<cnt x l):=by
 induction l with
 | nil=>simp [hitsNone,cnt]
 | cons p l ih =>
  have e:cnt x (p::l)=(if hits x p=true then 1 else 0)+cnt x l:=by
   unfold cnt
   cases hh:hits x p<;>simp [hh]
   omega
  rw [hitsNone,e]
  cases hits x p
  ·simp only [Bool.not_false,Bool.true_and,ih];simp
  ·simp;omega
end Pd
theorem refhits26_c (F:Heap) (x:Pd.At):∀ (n:Nat) (p:Pd.T) (u:Value),Pd.size p≤n→Pd.size p≤4611686018427387904→Pd.Row F u p.l →
  NCall Tryz.prog 129 [.agg (Pd.cs p u),.int .i64 x.sw,.int .i64 x.port,.agg x.pk] [hpB F] fun r m=>r = .bool (Pd.hits x p)∧m=[hpB F]
 | 0,p,u,hn,_,_=>absurd (Pd.size_pos p) (by omega)
 | n+1,⟨k,f,v,l⟩,u,hn,hs,hu=>by
  refine NCall.fits (K:=fun r m=>r = .bool (Pd.hits x (.mk k f v l))∧MemFits m [hpB F]) ?_ fun r m' h=>⟨r,_,rfl,h.2,h.1,rfl⟩
  have hu:Pd.Row F u l:=hu
  have hok:=hu.ok
  have hll:=Pd.length_le l
  have e2:Pd.size (.mk k f v l)=1+Pd.sizeL l:=by rw [Pd.size]
  have ih:∀ y∈l,∀ A,Pd.Row F A y.l→NCall Tryz.prog 129 [.agg (Pd.cs y A),.int .i64 x.sw,.int .i64 x.port,.agg x.pk] [hpB F] fun r m=>r = .bool (Pd.hits x y)∧m=[hpB F]:=fun y hy A hA=>refhits26_c F x n y A (by have:=Pd.size_lt (k:=k) (f:=f) (v:=v) hy;omega) (by have:=Pd.size_lt (k:=k) (f:=f) (v:=v) hy;omega) hA
  have hget:=refget26_c f x
  refine ncall_of Tryz.func129 rfl (by decide) ?_
  rw [pd_cs]
  by_cases h1:k=1
  ·subst h1
   rw [Pd.hits_1]
   obtain ⟨sw,port,p0,p1,p2,p3⟩:=x
   simp only [Pd.At.pk] at *
   (repeat' (first|(with_reducible first|(refine hK _ _ ?_;clear hK K)|(refine hA ?_;clear hA hB A B)|(refine hK _ ?_;clear hK K))|((with_reducible refine z25 ?_);intro K hK;(conv=>whnf))|(with_reducible refine z0 ?_)|((first|((with_reducible refine NIf.decY ?s ?_);case s=>with_reducible rfl)|(with_reducible refine NN.a5 ?_)|((with_reducible refine NH.mk ?s ?_);case s=>(and_intros<;>with_reducible rfl)))<;>(conv=>whnf))|(with_reducible first|refine z3 ?_|refine z4 ?_|refine z8 ?_)|((with_reducible refine z29 ?_);intro A B hA hB;(conv=>whnf))|(with_reducible first|refine z1 ?_|refine z2 ?_|refine z12 ?_)|((with_reducible refine gR ?_);(refine z31 rfl ?_;intro K hK;(conv=>whnf)))|((with_reducible refine gF ?_);(refine z33 rfl ?_;intro K hK;(conv=>whnf)))|((intro _;skip)<;>(conv=>whnf))))
   all_goals exact ⟨rfl,MemFits.pre 1 rfl⟩
  by_cases h3:k=3
  ·subst h3
   rw [Pd.hits_3]
   clear ih
   generalize hgv:Pd.get f x=gv at *
   obtain ⟨sw,port,p0,p1,p2,p3⟩:=x
   simp only [Pd.At.pk] at *
   by_cases hr:0≤f∧f≤5
   ·by_cases hv:gv=v
    ·rw [decide_eq_true ⟨hr,hv⟩]
     subst hv
     (repeat' (first|(with_reducible first|(refine hK _ _ ?_;clear hK K)|(refine hA ?_;clear hA hB A B)|(refine hB ?_;clear hA hB A B)|(refine hK _ ?_;clear hK K))|((with_reducible refine z25 ?_);intro K hK;(conv=>whnf))|(with_reducible refine z0 ?_)|((first|((with_reducible refine NIf.yes ?s ?_);case s=>(simp ;done))|((with_reducible refine NIf.no ?s ?_);case s=>(simp ;done))|((with_reducible refine NIf.decY ?s ?_);case s=>omega)|(with_reducible refine NN.a5 ?_)|((with_reducible refine NH.mk ?s ?_);case s=>(and_intros<;>first|with_reducible rfl|((with_reducible refine gKept ?_);exact rfl)|rfl))|((with_reducible refine NCall.isF 148 ?_);refine NCall.pureE (hget) ?_))<;>(conv=>whnf))|(with_reducible refine st_ordSout ?_)|((with_reducible refine gNOK ?_);(first|(refine st_ordK1 rfl (by kernel_rfl) rfl ?_;intro K hK;(conv=>whnf))|(refine st_ordK1g rfl (by kernel_rfl) rfl ?_;intro K hK;(conv=>whnf))|refine st_ordK0 rfl (by kernel_rfl) ?_|refine st_ordKA rfl rfl (by kernel_rfl) (by intro h;cases h) ?_))|((with_reducible refine gNEK ?_);(first|(refine st_eachKg rfl ?_ ?_;(intro K hK;(conv=>whnf)))|exact st_eachK0))|((with_reducible refine gX ?_);(first|refine st_orderS [] rfl rfl (by kernel_rfl) _ rfl ?_|(with_reducible first|refine z3 ?_|refine z4 ?_|refine z6 ?_|refine z8 ?_)|((with_reducible refine z29 ?_);intro A B hA hB;(conv=>whnf))))|(with_reducible first|refine z1 ?_|refine z2 ?_|refine z12 ?_)|((with_reducible refine gR ?_);(refine z31 rfl ?_;intro K hK;(conv=>whnf)))|((with_reducible refine gF ?_);(refine z33 rfl ?_;intro K hK;(conv=>whnf)))|((intro _;skip)<;>(conv=>whnf))))
     all_goals exact ⟨by simp,MemFits.pre 1 rfl⟩
    ·rw [decide_eq_false (fun h=>hv h.2)]
     (repeat' (first|(with_reducible first|(refine hK _ _ ?_;clear hK K)|(refine hA ?_;clear hA hB A B)|(refine hB ?_;clear hA hB A B)|(refine hK _ ?_;clear hK K))|((with_reducible refine z25 ?_);intro K hK;(conv=>whnf))|(with_reducible refine z0 ?_)|((first|((with_reducible refine NIf.yes ?s ?_);case s=>(simp [hv];done))|((with_reducible refine NIf.no ?s ?_);case s=>(simp [hv];done))|((with_reducible refine NIf.decY ?s ?_);case s=>omega)|(with_reducible refine NN.a5 ?_)|((with_reducible refine NH.mk ?s ?_);case s=>(and_intros<;>first|with_reducible rfl|((with_reducible refine gKept ?_);exact rfl)|rfl))|((with_reducible refine NCall.isF 148 ?_);refine NCall.pureE (hget) ?_))<;>(conv=>whnf))|(with_reducible refine st_ordSout ?_)|((with_reducible refine gNOK ?_);(first|(refine st_ordK1 rfl (by kernel_rfl) rfl ?_;intro K hK;(conv=>whnf))|(refine st_ordK1g rfl (by kernel_rfl) rfl ?_;intro K hK;(conv=>whnf))|refine st_ordK0 rfl (by kernel_rfl) ?_|refine st_ordKA rfl rfl (by kernel_rfl) (by intro h;cases h) ?_))|((with_reducible refine gNEK ?_);(first|(refine st_eachKg rfl ?_ ?_;(intro K hK;(conv=>whnf)))|exact st_eachK0))|((with_reducible refine gX ?_);(first|refine st_orderS [] rfl rfl (by kernel_rfl) _ rfl ?_|(with_reducible first|refine z3 ?_|refine z4 ?_|refine z6 ?_|refine z8 ?_)|((with_reducible refine z29 ?_);intro A B hA hB;(conv=>whnf))))|(with_reducible first|refine z1 ?_|refine z2 ?_|refine z12 ?_)|((with_reducible refine gR ?_);(refine z31 rfl ?_;intro K hK;(conv=>whnf)))|((with_reducible refine gF ?_);(refine z33 rfl ?_;intro K hK;(conv=>whnf)))|((intro _;skip)<;>(conv=>whnf))))
     all_goals exact ⟨by simp [hv],MemFits.pre 1 rfl⟩
   ·rw [decide_eq_false (fun h=>hr h.1)]
    (repeat' (first|(with_reducible first|(refine hK _ _ ?_;clear hK K)|(refine hA ?_;clear hA hB A B)|(refine hB ?_;clear hA hB A B)|(refine hK _ ?_;clear hK K))|((with_reducible refine z25 ?_);intro K hK;(conv=>whnf))|(with_reducible refine z0 ?_)|((first|((with_reducible refine NIf.decY ?s ?_);case s=>first|with_reducible rfl|assumption)|((with_reducible refine NIf.decN ?s ?_);case s=>first|assumption|omega)|((with_reducible refine NIf.no ?s ?_);case s=>rfl)|(with_reducible first|refine NIf.dec (fun _=>?_) (fun _=>?_)|refine NN.a5 ?_)|((with_reducible refine NH.mk ?s ?_);case s=>(and_intros<;>first|with_reducible rfl|rfl)))<;>(conv=>whnf))|(with_reducible refine st_ordSout ?_)|((with_reducible refine gNOK ?_);(first|(refine st_ordK1 rfl (by kernel_rfl) rfl ?_;intro K hK;(conv=>whnf))|(refine st_ordK1g rfl (by kernel_rfl) rfl ?_;intro K hK;(conv=>whnf))|refine st_ordK0 rfl (by kernel_rfl) ?_|refine st_ordKA rfl rfl (by kernel_rfl) (by intro h;cases h) ?_))|((with_reducible refine gNEK ?_);(first|(refine st_eachKg rfl ?_ ?_;(intro K hK;(conv=>whnf)))|exact st_eachK0))|((with_reducible refine gX ?_);(first|refine st_orderS [] rfl rfl (by kernel_rfl) _ rfl ?_|(with_reducible first|refine z3 ?_|refine z4 ?_|refine z6 ?_|refine z8 ?_)|((with_reducible refine z29 ?_);intro A B hA hB;(conv=>whnf))))|(with_reducible first|refine z1 ?_|refine z2 ?_|refine z12 ?_)|((with_reducible refine gR ?_);(refine z31 rfl ?_;intro K hK;(conv=>whnf)))|((with_reducible refine gF ?_);(refine z33 rfl ?_;intro K hK;(conv=>whnf)))|((intro _;skip)<;>(conv=>whnf))))
    all_goals exact ⟨by simp,MemFits.pre 1 rfl⟩
  by_cases h4:k=4
  ·subst h4
   cases l with
   | nil =>
    rw [Pd.hits_4n]
    obtain ⟨sw,port,p0,p1,p2,p3⟩:=x
    simp only [Pd.At.pk,List.length_nil] at *
    (repeat' (first|(with_reducible first|(refine hK _ _ ?_;clear hK K)|(refine hA ?_;clear hA hB A B)|(refine hB ?_;clear hA hB A B)|(refine hK _ ?_;clear hK K))|((with_reducible refine z25 ?_);intro K hK;(conv=>whnf))|(with_reducible refine z0 ?_)|((first|((with_reducible refine NIf.decY ?s ?_);case s=>with_reducible rfl)|((with_reducible refine NIf.decN ?s ?_);case s=>first|assumption|omega)|(with_reducible refine NN.a5 ?_)|((with_reducible refine NH.mk ?s ?_);case s=>(and_intros<;>first|with_reducible rfl|omega|rfl)))<;>(conv=>whnf))|(with_reducible refine st_ordSout ?_)|((with_reducible refine gNOK ?_);(first|(refine st_ordK1 rfl (by kernel_rfl) rfl ?_;intro K hK;(conv=>whnf))|(refine st_ordK1g rfl (by kernel_rfl) rfl ?_;intro K hK;(conv=>whnf))|refine st_ordK0 rfl (by kernel_rfl) ?_|refine st_ordKA rfl rfl (by kernel_rfl) (by intro h;cases h) ?_))|((with_reducible refine gNEK ?_);(first|(refine st_eachKg rfl ?_ ?_;(intro K hK;(conv=>whnf)))|exact st_eachK0))|((with_reducible refine gX ?_);(first|refine st_orderS [] rfl rfl (by kernel_rfl) _ rfl ?_|(with_reducible first|refine z3 ?_|refine z4 ?_|refine z6 ?_|refine z8 ?_)|((with_reducible refine z29 ?_);intro A B hA hB;(conv=>whnf))))|(with_reducible first|refine z1 ?_|refine z2 ?_|refine z12 ?_)|((with_reducible refine gR ?_);(refine z31 rfl ?_;intro K hK;(conv=>whnf)))|((with_reducible refine gF ?_);(refine z33 rfl ?_;intro K hK;(conv=>whnf)))|((intro _;skip)<;>(conv=>whnf))))
    all_goals first
     | exact ⟨rfl,MemFits.pre 1 rfl⟩
     | (exfalso;omega)
   | cons q l =>
    rw [Pd.hits_4]
    obtain ⟨A,cap,hA,c0,c1,c2,c3⟩:=hu.get (i:=0) (x:=q) rfl
    have c:=ih q (by simp) _ hA
    clear ih
    generalize Pd.hits x q=hb at *
    simp only [Pd.cs] at c
    generalize hln:(q::l).length=ln at *
    have hpos:0<ln:=by rw [← hln];simp
    obtain ⟨sw,port,p0,p1,p2,p3⟩:=x
    simp only [Pd.At.pk] at *
    (repeat' (first|(with_reducible first|(refine hK _ _ ?_;clear hK K)|(refine hA ?_;clear hA hB A B)|(refine hB ?_;clear hA hB A B)|(refine hK _ ?_;clear hK K))|((with_reducible refine z25 ?_);intro K hK;(conv=>whnf))|(with_reducible refine z0 ?_)|((first|((with_reducible refine NIf.decY ?s ?_);case s=>first|with_reducible rfl|omega)|((with_reducible refine NIf.decN ?s ?_);case s=>assumption)|(with_reducible first|refine NN.lit ?_|refine NN.a5 ?_|refine NN.a6 ?_)|((with_reducible refine NH.mk ?s ?_);case s=>(and_intros<;>first|with_reducible rfl|((with_reducible refine gKept ?_);exact rfl)|omega|rfl))|((with_reducible refine NCall.isF 129 ?_);refine NCall.subE [0] (c) rfl (by decide) rfl rfl ?_)|(with_reducible refine NLd.of (by with_reducible assumption) ?_))<;>(conv=>whnf))|(with_reducible refine st_ordSout ?_)|((with_reducible refine gNOK ?_);(first|(refine st_ordK1 rfl (by kernel_rfl) rfl ?_;intro K hK;(conv=>whnf))|(refine st_ordK1g rfl (by kernel_rfl) rfl ?_;intro K hK;(conv=>whnf))|refine st_ordK0 rfl (by kernel_rfl) ?_|refine st_ordKA rfl rfl (by kernel_rfl) (by intro h;cases h) ?_))|((with_reducible refine gNEK ?_);(first|(refine st_eachKg rfl ?_ ?_;(intro K hK;(conv=>whnf)))|exact st_eachK0))|((with_reducible refine gX ?_);(first|refine st_orderS [] rfl rfl (by kernel_rfl) _ rfl ?_|(with_reducible first|refine z3 ?_|refine z4 ?_|refine z6 ?_|refine z8 ?_)|((with_reducible refine z29 ?_);intro A B hA hB;(conv=>whnf))))|(with_reducible first|refine z1 ?_|refine z2 ?_|refine z12 ?_)|((with_reducible refine gR ?_);(refine z31 rfl ?_;intro K hK;(conv=>whnf)))|((with_reducible refine gF ?_);(refine z33 rfl ?_;intro K hK;(conv=>whnf)))|((intro _;skip)<;>(conv=>whnf))))
    all_goals first
     | exact ⟨rfl,MemFits.pre 1 rfl⟩
     | (exfalso;omega)
  have hans:Pd.hits x (.mk k f v l)=(decide (k=5)&&decide (Pd.cnt x l=l.length)||decide (k=6)&&decide (0<Pd.cnt x l)):=by
   by_cases h5:k=5
   ·subst h5;rw [Pd.hits_5,Pd.cnt_all];simp
   ·by_cases h6:k=6
    ·subst h6;rw [Pd.hits_6,Pd.cnt_none];simp
    ·rw [Pd.hits_no x k f v l (by omega)];simp [h5,h6]
  rw [hans]
  (repeat' (first|(with_reducible first|(refine hK _ _ ?_;clear hK K)|(refine hB ?_;clear hA hB A B)|(refine hK _ ?_;clear hK K))|((with_reducible refine z25 ?_);intro K hK;(conv=>whnf))|(with_reducible refine z0 ?_)|((first|((with_reducible refine NIf.decN ?s ?_);case s=>assumption)|(with_reducible refine NN.a5 ?_)|((with_reducible refine NH.mk ?s ?_);case s=>(and_intros<;>with_reducible rfl)))<;>(conv=>whnf))|(with_reducible first|refine z3 ?_|refine z4 ?_|refine z5 ?_|refine z6 ?_)|((with_reducible refine z29 ?_);intro A B hA hB;(conv=>whnf))|(with_reducible first|refine z1 ?_|refine z2 ?_)|((with_reducible refine gF ?_);(refine z33 rfl ?_;intro K hK;(conv=>whnf)))|((intro _;skip)<;>(conv=>whnf))))
  refine st_auto (α:=Nat) (fun i=>i≤l.length) (fun i=>[.keep,.keep,.keep,.keep,.keep,.keep,.keep,.keep,.keep,.set (.int .i64 (Pd.cnt x (l.take i):Nat)),.set (.int .i64 i),.keep,.keep,.keep,.keep,.keep,.keep,.keep,.keep,.keep,.keep,.keep,.keep,.keep,.keep,.keep,.keep,.keep,.keep,.keep,.keep,.keep,.keep,.keep,.keep,.keep,.keep,.keep,.keep,.keep,.keep,.keep,.keep,.keep,.keep,.keep,.keep,.keep,.keep,.keep,.keep,.keep,.keep,.keep,.drop,.drop,.drop,.drop,.drop,.drop,.drop,.drop,.drop,.drop,.drop,.drop,.drop,.drop,.drop,.drop,.drop,.drop,.keep,.keep,.keep,.keep,.keep,.keep,.keep,.keep,.keep,.keep,.keep,.keep,.keep,.keep,.keep,.keep,.keep,.keep,.keep]) (fun _=>[]) (fun i=>l.length - i) 0 (Nat.zero_le _) ?_ (MemFits.eq rfl) ?_
  ·repeat (first|exact FitsSl.nil|refine FitsSl.any ?_|refine FitsSl.cons (Fit1.int (by  simp [Pd.cnt])) ?_|refine FitsSl.cons (Fit1.bool rfl) ?_|refine FitsSl.cons (Fit1.same (by intro h;cases h) (by with_reducible rfl)) ?_)
  (intro i hi;intro K hK;(conv=>whnf);refine hK _ _ ?_;clear hK K)
  have hcl:=Pd.cnt_le x (l.take i)
  rw [List.length_take] at hcl
  by_cases hlt:i<l.length
  ·have hx:l[i]?=some l[i]:=List.getElem?_eq_getElem hlt
   obtain ⟨A,cap,hA,c0,c1,c2,c3⟩:=hu.get hx
   have hmem:=List.mem_of_getElem? hx
   have c:=ih _ hmem _ hA
   have hnx:=Pd.cnt_take x hlt
   clear ih hans
   generalize l[i]=y at *
   simp only [Pd.cs] at c
   generalize Pd.cnt x (l.take i)=ci at *
   cases hq:Pd.hits x y with
   | true =>
    rw [hq] at c hnx
    simp only [Pd.At.pk] at *
    (repeat' (first|(with_reducible first|(refine hK _ _ ?_;clear hK K)|(refine hA ?_;clear hA hB A B)|(refine hK _ ?_;clear hK K))|((with_reducible refine z25 ?_);intro K hK;(conv=>whnf))|(with_reducible refine z0 ?_)|((first|((with_reducible refine NV.i64 ?s ?_);case s=>omega)|((with_reducible refine NIf.decY ?s ?_);case s=>omega)|((with_reducible refine NIf.yes ?s ?_);case s=>rfl)|(with_reducible first|refine NN.cast ?_|refine NN.a5 ?_|refine NN.keep ?_)|((with_reducible refine NH.mk ?s ?_);case s=>(and_intros<;>first|with_reducible rfl|((with_reducible refine gKept ?_);exact rfl)|omega|rfl))|((with_reducible refine NCall.isF 129 ?_);refine NCall.subE [0] (c) rfl (by decide) rfl rfl ?_)|(with_reducible refine NLd.of (by with_reducible assumption) ?_))<;>(conv=>whnf))|(with_reducible refine st_ordSout ?_)|((with_reducible refine gNOK ?_);(first|(refine st_ordK1 rfl (by kernel_rfl) rfl ?_;intro K hK;(conv=>whnf))|refine st_ordK0 rfl (by kernel_rfl) ?_|refine st_ordKA rfl rfl (by kernel_rfl) (by intro h;cases h) ?_))|((with_reducible refine gNEK ?_);(first|(refine st_eachK ?_ ?_;(intro K hK;(conv=>whnf)))|exact st_eachK0))|((with_reducible refine gX ?_);(first|refine st_orderS [] rfl rfl (by kernel_rfl) _ rfl ?_|(with_reducible first|refine z3 ?_|refine z4 ?_|refine z5 ?_|refine z6 ?_)|((with_reducible refine z29 ?_);intro A B hA hB;(conv=>whnf))))|(with_reducible first|refine z1 ?_|refine z2 ?_|refine z9 ?_)))
    all_goals refine st_round (i+1) hlt (by omega) ?_ (MemFits.eq rfl)
    all_goals repeat (first|exact FitsSl.nil|refine FitsSl.any ?_|refine FitsSl.cons (Fit1.int (by  (rw [hnx];simp))) ?_|refine FitsSl.cons (Fit1.int (by first | rfl | omega)) ?_|refine FitsSl.cons (Fit1.bool rfl) ?_|refine FitsSl.cons (Fit1.same (by intro h;cases h) (by with_reducible rfl)) ?_)
   | false =>
    rw [hq] at c hnx
    simp only [Pd.At.pk] at *
    (repeat' (first|(with_reducible first|(refine hK _ _ ?_;clear hK K)|(refine hA ?_;clear hA hB A B)|(refine hB ?_;clear hA hB A B)|(refine hK _ ?_;clear hK K))|((with_reducible refine z25 ?_);intro K hK;(conv=>whnf))|(with_reducible refine z0 ?_)|((first|((with_reducible refine NV.i64 ?s ?_);case s=>omega)|((with_reducible refine NIf.decY ?s ?_);case s=>omega)|((with_reducible refine NIf.no ?s ?_);case s=>rfl)|(with_reducible first|refine NN.cast ?_|refine NN.a5 ?_|refine NN.keep ?_)|((with_reducible refine NH.mk ?s ?_);case s=>(and_intros<;>first|with_reducible rfl|((with_reducible refine gKept ?_);exact rfl)|omega|rfl))|((with_reducible refine NCall.isF 129 ?_);refine NCall.subE [0] (c) rfl (by decide) rfl rfl ?_)|(with_reducible refine NLd.of (by with_reducible assumption) ?_))<;>(conv=>whnf))|(with_reducible refine st_ordSout ?_)|((with_reducible refine gNOK ?_);(first|(refine st_ordK1 rfl (by kernel_rfl) rfl ?_;intro K hK;(conv=>whnf))|refine st_ordK0 rfl (by kernel_rfl) ?_|refine st_ordKA rfl rfl (by kernel_rfl) (by intro h;cases h) ?_))|((with_reducible refine gNEK ?_);(first|(refine st_eachK ?_ ?_;(intro K hK;(conv=>whnf)))|exact st_eachK0))|((with_reducible refine gX ?_);(first|refine st_orderS [] rfl rfl (by kernel_rfl) _ rfl ?_|(with_reducible first|refine z3 ?_|refine z4 ?_|refine z5 ?_|refine z6 ?_)|((with_reducible refine z29 ?_);intro A B hA hB;(conv=>whnf))))|(with_reducible first|refine z1 ?_|refine z2 ?_|refine z9 ?_)))
    all_goals refine st_round (i+1) hlt (by omega) ?_ (MemFits.eq rfl)
    all_goals repeat (first|exact FitsSl.nil|refine FitsSl.any ?_|refine FitsSl.cons (Fit1.int (by  (rw [hnx];simp))) ?_|refine FitsSl.cons (Fit1.int (by first | rfl | omega)) ?_|refine FitsSl.cons (Fit1.bool rfl) ?_|refine FitsSl.cons (Fit1.same (by intro h;cases h) (by with_reducible rfl)) ?_)
  ·have hkl:i=l.length:=by omega
   subst hkl
   rw [List.take_length] at hcl ⊢
   generalize Pd.cnt x l=ci at *
   clear ih hans
   (repeat' (first|(with_reducible first|(refine hK _ _ ?_;clear hK K)|(refine hB ?_;clear hA hB A B)|(refine hK _ ?_;clear hK K))|((with_reducible first|refine z25 ?_|refine z26 ?_);intro K hK;(conv=>whnf))|(with_reducible refine z0 ?_)|((first|((with_reducible refine NIf.decY ?s ?_);case s=>assumption)|((with_reducible refine NIf.decN ?s ?_);case s=>first|assumption|omega)|((with_reducible refine NIf.no ?s ?_);case s=>rfl)|(with_reducible first|refine NIf.dec (fun _=>?_) (fun _=>?_)|refine NN.a5 ?_)|((with_reducible refine NH.mk ?s ?_);case s=>(and_intros<;>first|with_reducible rfl|omega)))<;>(conv=>whnf))|(with_reducible first|refine z3 ?_|refine z4 ?_|refine z7 ?_|refine z8 ?_)|((with_reducible refine z29 ?_);intro A B hA hB;(conv=>whnf))|(with_reducible first|refine z1 ?_|refine z2 ?_|refine z10 ?_|refine z11 ?_|refine z19 ?_)|((with_reducible refine gR ?_);(refine z31 rfl ?_;intro K hK;(conv=>whnf)))))
   all_goals
    refine ⟨?_,MemFits.pre 1 rfl⟩
    congr 1
    first
     | (simp;omega)
     | (rw [Bool.eq_iff_iff];simp;omega)
theorem Fit1.slhs {i n n':Nat} {v v':Value} (h:v=v'):Fit1 (.sl i v n) (.hs v' n'):=.inr ⟨by simp,by rw [h];rfl⟩
theorem Fit1.nilhs {n':Nat} {v':Value} (h:v' = .slice none 0 0):Fit1 (.raw (.slice none 0 0)) (.hs v' n'):=.inr ⟨by simp,by rw [h];rfl⟩
theorem Po.SRow.mono {F G:Heap} (h:F.le G) {v:Value} {l:List Po.S} (hv:Po.SRow F v l):Po.SRow G v l:=RowF.mono h (fun _ _ h=>h) hv
abbrev Po.Sents (F:Heap) (l:List Po.S) (r:AV) (m:List Blk):Prop:=∃ F' v,F.le F'∧Po.SRow F' v l∧r = .hs v l.length∧m=[hpB F']
theorem both27_c (F:Heap) (v w:Value) (a b:List Po.S) (hn:a.length+b.length≤1000000) (hv:Po.SRow F v a) (hw:Po.SRow F w b) :
  NCall Tryz.prog 131 [.hs v a.length,.hs w b.length] [hpB F] fun r m=>Po.Sents F (Po.both a b) r m:=by
 refine NCall.fits (K:=fun r m=>∃ F' u,F.le F'∧Po.SRow F' u (Po.both a b)∧r = .hs u (Po.both a b).length∧MemFits m [hpB F']) ?_ fun r m' ⟨F',u,h1,h2,h3,h4⟩=>⟨r,_,rfl,h4,F',u,h1,h2,h3,rfl⟩
 have hok:=hv.ok
 have hokw:=hw.ok
 refine ncall_of Tryz.func131 rfl (by decide) ?_
 (repeat' (first|(with_reducible first|(refine hK _ _ ?_;clear hK K)|(refine hK _ ?_;clear hK K))|((with_reducible refine z25 ?_);intro K hK;(conv=>whnf))|(with_reducible first|refine z0 ?_|refine z3 ?_|refine z4 ?_|refine z5 ?_|refine z1 ?_|refine z2 ?_)|((with_reducible refine gF ?_);(refine z33 rfl ?_;intro K hK;(conv=>whnf)))))
 refine st_auto (α:=Heap × Value × Nat) (fun (G,u,i)=>F.le G∧i≤b.length∧Po.SRow G u (Po.both a (b.take i))) (fun (G,u,i)=>[.set (.hs u (Po.both a (b.take i)).length),.keep,.keep,.keep,.keep,.set (.int .i64 i),.drop,.drop,.drop,.drop,.drop,.drop,.drop,.drop,.drop,.drop,.drop,.drop,.keep]) (fun (G,u,i)=>[.set (hpB G)]) (fun (G,u,i)=>b.length - i) (F,v,0) ⟨F.le_refl,Nat.zero_le _,hv⟩ ?_ (MemFits.eq rfl) ?_
 ·repeat (first|exact FitsSl.nil|refine FitsSl.any ?_|refine FitsSl.cons (Fit1.int (by first | rfl | omega)) ?_|refine FitsSl.cons (Fit1.same (by intro h;cases h) (by with_reducible rfl)) ?_|refine FitsSl.cons (Fit1.hs rfl) ?_)
 (intro ⟨G,u,i⟩ ⟨hle,hi,hu⟩;intro K hK;(conv=>whnf);refine hK _ _ ?_;clear hK K)
 dsimp only
 by_cases hlt:i<b.length
 ·have hx:b[i]?=some b[i]:=List.getElem?_eq_getElem hlt
  obtain ⟨g0,g1,g2,g3,g4⟩:=RowF.get5 (f0:=fun s:Po.S=>.int .i64 s.port) (f1:=fun s=>.int .i64 s.p0) (f2:=fun s=>.int .i64 s.p1) (f3:=fun s=>.int .i64 s.p2) (f4:=fun s=>.int .i64 s.p3) (Po.SRow.mono hle hw) hlt
  have hln:=Po.both_len (b.take i) a
  rw [List.length_take] at hln
  have cp:=put27_c G u (Po.both a (b.take i)) b[i] (by omega) hu
  have hnx:=Po.both_take a hlt
  rw [← hnx] at cp
  have huo:=hu.ok
  generalize Po.both a (b.take i)=A at *
  generalize hA2:Po.both a (b.take (i+1))=A2 at *
  clear hnx hx
  generalize b[i]=x at *
  obtain ⟨x0,x1,x2,x3,x4⟩:=x
  dsimp only [Po.S.av] at *
  (repeat' (first|(with_reducible first|(refine hK _ _ ?_;clear hK K)|(refine hA ?_;clear hA hB A B))|((with_reducible refine z25 ?_);intro K hK;(conv=>whnf))|(with_reducible refine z0 ?_)|((first|((with_reducible refine NV.i64 ?s ?_);case s=>omega)|((with_reducible refine NIf.decY ?s ?_);case s=>omega)|(with_reducible first|refine NN.cast ?_|refine NN.keep ?_)|((with_reducible refine NH.mk ?s ?_);case s=>(and_intros<;>omega))|((with_reducible refine NCall.isF 16 ?_);refine NCall.subw [0] _ _ (cp) rfl (by decide) rfl ?_;rintro _ _ ⟨G2,u2,hle2,hu2,rfl,rfl⟩;refine ⟨Nat.le_of_ble_eq_true rfl,_,rfl,?_⟩)|(with_reducible refine NLd.of (by with_reducible assumption) ?_))<;>(conv=>whnf))|(with_reducible first|refine z3 ?_|refine z4 ?_|refine z5 ?_|refine z6 ?_)|((with_reducible refine z29 ?_);intro A B hA hB;(conv=>whnf))|(with_reducible first|refine z1 ?_|refine z2 ?_|refine z9 ?_)))
  all_goals
   refine st_round (G2,u2,i+1) ⟨hle.trans hle2,hlt,hA2 ▸ hu2⟩ (by show b.length - (i+1)<b.length - i;omega) ?_ (MemFits.eq rfl)
   dsimp only
   rw [hA2]
   repeat (first|exact FitsSl.nil|refine FitsSl.any ?_|refine FitsSl.cons (Fit1.int (by first | rfl | omega)) ?_|refine FitsSl.cons (Fit1.same (by intro h;cases h) (by with_reducible rfl)) ?_)
 ·have hib:i=b.length:=by omega
  subst hib
  rw [List.take_length] at hu ⊢
  (repeat' (first|(with_reducible first|(refine hK _ _ ?_;clear hK K)|(refine hB ?_;clear hA hB A B)|(refine hK _ ?_;clear hK K))|((with_reducible refine z25 ?_);intro K hK;(conv=>whnf))|(with_reducible refine z0 ?_)|((first|((with_reducible refine NIf.decN ?s ?_);case s=>omega)|((with_reducible refine NH.mk ?s ?_);case s=>(and_intros<;>omega)))<;>(conv=>whnf))|(with_reducible first|refine z3 ?_|refine z4 ?_|refine z7 ?_|refine z8 ?_)|((with_reducible refine z29 ?_);intro A B hA hB;(conv=>whnf))|(with_reducible first|refine z1 ?_|refine z2 ?_|refine z10 ?_|refine z11 ?_|refine z19 ?_)|((with_reducible refine gR ?_);(refine z31 rfl ?_;intro K hK;(conv=>whnf)))))
  all_goals exact ⟨G,u,hle,hu,rfl,MemFits.pre 1 rfl⟩
theorem MemFits.frz3 {F:Heap} {b1 b2 b3:Blk} {a:Addr} {cs:List AV} {v:Value} {t:TypeId} {sz n:Nat}:MemFits [hpB F,b1,b2,b3,⟨a,cs,.row v t sz n⟩] [hpB (addF F (addrOf v) (denL cs)),b1,b2,hpB noHeap,hpB noHeap] :=
 ((MemFits.pick (m':=[hpB F,⟨a,cs,.row v t sz n⟩,b1,b2]) [0,4,1,2] (by decide) rfl).trans (MemFits.freeze (m:=[b1,b2]))).trans (((MemFits.noHeap _).trans (MemFits.noHeap _)).trans (MemFits.pick [2,3,4,0,1] (by decide) rfl))
theorem MemFits.in3 {G:Heap} {b1 b2 b3 b4:Blk}:MemFits [hpB G,b1,b2,b3,b4] [hpB G,b1,b2,b3,hpB G] :=
 (MemFits.pick (m':=[hpB G,b1,b2,b3]) [0,1,2,3] (by decide) rfl).trans ((MemFits.dup G.le_refl _).trans (MemFits.pick [0,2,3,4,1] (by decide) rfl))
theorem MemFits.in2 {G:Heap} {b1 b2:Blk}:MemFits [hpB G,b1,b2] [hpB G,b1,b2,hpB G] :=
 (MemFits.dup G.le_refl _).trans (MemFits.pick [0,2,3,1] (by decide) rfl)
theorem MemFits.out3 {G G2:Heap} {b1 b2 b3:Blk}:MemFits [hpB G,b1,b2,b3,hpB G2] [hpB G2,b1,b2,b3,hpB noHeap] :=
 (MemFits.pick (m':=[hpB G2,b1,b2,b3]) [4,1,2,3] (by decide) rfl).trans ((MemFits.noHeap _).trans (MemFits.pick [1,2,3,4,0] (by decide) rfl))
theorem Po.with_port (f v:Int) (s:Po.S):(Po.withS f v s).port=s.port:=by
 unfold Po.withS
 repeat' split
 all_goals rfl
theorem Po.with_4 (v:Int) (s:Po.S):Po.withS 4 v s=s:=if_neg (by omega)
theorem Po.put_eq (f v:Int) (s:Po.S):Po.put f v s=if f=4 then { s with port:=v } else Po.withS f v s:=rfl
theorem refrun27_12 (F:Heap) (sw:Int) (k f v:Int) (p:Pd.T) (l:List Po.T) (pu u:Value) (s:Po.S) (hk:k=1∨k=2) (hs:Pd.size p≤4611686018427387904) (hx:Po.At F (.mk k p f v l) pu u) :
  NCall Tryz.prog 94 [.agg (Po.cs (.mk k p f v l) pu u),.int .i64 sw,.int .i64 s.port,.agg [.int .i64 s.p0,.int .i64 s.p1,.int .i64 s.p2,.int .i64 s.p3]] [hpB F] fun r m=>∃ w:Value,r.den=slOf w∧MemFits m [hpB F,⟨addrOf w,Po.savs (Po.runs sw (.mk k p f v l) s),.row w 56 5 (Po.runs sw (.mk k p f v l) s).length⟩]:=by
 have hu:Po.Row F u l:=hx.l
 have hpu:Pd.Row F pu p.l:=hx.p
 have hok:=hu.ok
 have hpok:=hpu.ok
 have ch:=refhits26_c F (s.at_ sw) _ p pu (Nat.le_refl _) hs hpu
 have cw:=refwith27_c s f v
 have eR:=Po.runs_mk sw k p f v l s
 rw [eR]
 clear eR
 have hport:=Po.with_port f v s
 have hput:=Po.put_eq f v s
 have hp4:f=4→Po.withS f v s=s:=fun e=>e ▸ Po.with_4 v s
 generalize Po.withS f v s=W at *
 generalize Po.put f v s=U at *
 generalize Pd.hits (s.at_ sw) p=hh at *
 clear hu hpu hx
 obtain ⟨pk,pf,pv,pl⟩:=p
 obtain ⟨a0,a1,a2,a3,a4⟩:=s
 obtain ⟨w0,w1,w2,w3,w4⟩:=W
 simp only [pd_cs,po_cs,Pd.T.k,Pd.T.f,Pd.T.v,Pd.T.l,Po.S.at_,Pd.At.pk] at *
 rcases hk with rfl | rfl
 ·cases hh with
  | true =>
   rw [if_pos rfl,if_pos rfl]
   refine ncall_of Tryz.func94 rfl (by decide) ?_
   (repeat' (first|(with_reducible first|(refine hK _ _ ?_;clear hK K)|(refine hA ?_;clear hA hB A B)|(refine hK _ ?_;clear hK K))|((with_reducible refine z25 ?_);intro K hK;(conv=>whnf))|(with_reducible refine z0 ?_)|((first|((with_reducible refine NIf.decY ?s ?_);case s=>with_reducible rfl)|((with_reducible refine NIf.yes ?s ?_);case s=>rfl)|(with_reducible refine NN.a5 ?_)|((with_reducible refine NH.mk ?s ?_);case s=>(and_intros<;>first|with_reducible rfl|((with_reducible refine gOnes ?_);rfl)|((with_reducible refine gLen ?_);rfl)|omega))|((with_reducible refine NCall.isF 129 ?_);refine NCall.subE [0] (ch) rfl (by decide) rfl rfl ?_))<;>(conv=>whnf))|(with_reducible first|refine z3 ?_|refine z4 ?_|refine z5 ?_|refine z8 ?_)|((with_reducible refine z29 ?_);intro A B hA hB;(conv=>whnf))|(with_reducible first|refine z1 ?_|refine z2 ?_|refine z9 ?_)|((with_reducible refine gR ?_);(refine z31 rfl ?_;intro K hK;(conv=>whnf)))|((with_reducible refine gF ?_);(refine z33 rfl ?_;intro K hK;(conv=>whnf)))|((intro _;skip)<;>(conv=>whnf))))
   all_goals
    rename_i v9
    exact ⟨v9,rfl,MemFits.pick [0,4] (by decide) rfl⟩
  | false =>
   rw [if_pos rfl,if_neg (by decide)]
   refine ncall_of Tryz.func94 rfl (by decide) ?_
   (repeat' (first|(with_reducible first|(refine hK _ _ ?_;clear hK K)|(refine hA ?_;clear hA hB A B)|(refine hB ?_;clear hA hB A B)|(refine hK _ ?_;clear hK K))|((with_reducible refine z25 ?_);intro K hK;(conv=>whnf))|(with_reducible refine z0 ?_)|((first|((with_reducible refine NIf.decY ?s ?_);case s=>with_reducible rfl)|((with_reducible refine NIf.no ?s ?_);case s=>rfl)|(with_reducible refine NN.a5 ?_)|((with_reducible refine NH.mk ?s ?_);case s=>(and_intros<;>with_reducible rfl))|((with_reducible refine NCall.isF 129 ?_);refine NCall.subE [0] (ch) rfl (by decide) rfl rfl ?_))<;>(conv=>whnf))|(with_reducible first|refine z3 ?_|refine z4 ?_|refine z5 ?_|refine z6 ?_|refine z8 ?_)|((with_reducible refine z29 ?_);intro A B hA hB;(conv=>whnf))|(with_reducible first|refine z1 ?_|refine z2 ?_|refine z9 ?_)|((with_reducible refine gR ?_);(refine z31 rfl ?_;intro K hK;(conv=>whnf)))|((with_reducible refine gF ?_);(refine z33 rfl ?_;intro K hK;(conv=>whnf)))|((intro _;skip)<;>(conv=>whnf))))
   all_goals exact ⟨.slice none 0 0,rfl,(MemFits.pre (m':=[hpB F]) 1 rfl).trans (MemFits.nilRow [hpB F] _ _)⟩
 ·rw [if_neg (by decide),if_pos rfl]
  by_cases hf:f=4
  ·subst hf
   rw [if_pos rfl] at hput
   injection hp4 rfl with j0 j1 j2 j3 j4
   subst j0 j1 j2 j3 j4
   subst hput
   refine ncall_of Tryz.func94 rfl (by decide) ?_
   (repeat' (first|(with_reducible first|(refine hK _ _ ?_;clear hK K)|(refine hA ?_;clear hA hB A B)|(refine hB ?_;clear hA hB A B)|(refine hK _ ?_;clear hK K))|((with_reducible refine z25 ?_);intro K hK;(conv=>whnf))|(with_reducible refine z0 ?_)|((first|((with_reducible refine NIf.decY ?s ?_);case s=>with_reducible rfl)|((with_reducible refine NIf.decN ?s ?_);case s=>omega)|(with_reducible refine NN.a5 ?_)|((with_reducible refine NH.mk ?s ?_);case s=>(and_intros<;>first|with_reducible rfl|((with_reducible refine gOnes ?_);rfl)|((with_reducible refine gLen ?_);rfl)|omega))|((with_reducible refine NCall.isF 129 ?_);refine NCall.subE [0] (ch) rfl (by decide) rfl rfl ?_)|((with_reducible refine NCall.isF 130 ?_);refine NCall.pureE (cw) ?_))<;>(conv=>whnf))|(with_reducible first|refine z3 ?_|refine z4 ?_|refine z5 ?_|refine z8 ?_)|((with_reducible refine z29 ?_);intro A B hA hB;(conv=>whnf))|(with_reducible first|refine z1 ?_|refine z2 ?_|refine z9 ?_)|((with_reducible refine gR ?_);(refine z31 rfl ?_;intro K hK;(conv=>whnf)))|((with_reducible refine gF ?_);(refine z33 rfl ?_;intro K hK;(conv=>whnf)))|((intro _;skip)<;>(conv=>whnf))))
   all_goals
    rename_i v9
    exact ⟨v9,rfl,MemFits.pick [0,4] (by decide) rfl⟩
  ·rw [if_neg hf] at hput
   subst hput hport
   refine ncall_of Tryz.func94 rfl (by decide) ?_
   (repeat' (first|(with_reducible first|(refine hK _ _ ?_;clear hK K)|(refine hA ?_;clear hA hB A B)|(refine hB ?_;clear hA hB A B)|(refine hK _ ?_;clear hK K))|((with_reducible refine z25 ?_);intro K hK;(conv=>whnf))|(with_reducible refine z0 ?_)|((first|((with_reducible refine NIf.decY ?s ?_);case s=>with_reducible rfl)|((with_reducible refine NIf.decN ?s ?_);case s=>first|assumption|omega)|(with_reducible refine NN.a5 ?_)|((with_reducible refine NH.mk ?s ?_);case s=>(and_intros<;>first|with_reducible rfl|((with_reducible refine gOnes ?_);rfl)|((with_reducible refine gLen ?_);rfl)|omega))|((with_reducible refine NCall.isF 129 ?_);refine NCall.subE [0] (ch) rfl (by decide) rfl rfl ?_)|((with_reducible refine NCall.isF 130 ?_);refine NCall.pureE (cw) ?_))<;>(conv=>whnf))|(with_reducible first|refine z3 ?_|refine z4 ?_|refine z5 ?_|refine z6 ?_|refine z8 ?_)|((with_reducible refine z29 ?_);intro A B hA hB;(conv=>whnf))|(with_reducible first|refine z1 ?_|refine z2 ?_|refine z9 ?_)|((with_reducible refine gR ?_);(refine z31 rfl ?_;intro K hK;(conv=>whnf)))|((with_reducible refine gF ?_);(refine z33 rfl ?_;intro K hK;(conv=>whnf)))|((intro _;skip)<;>(conv=>whnf))))
   all_goals
    rename_i v9
    exact ⟨v9,rfl,MemFits.pick [0,4] (by decide) rfl⟩
theorem refrun27_3 (F:Heap) (sw:Int) (f v:Int) (p:Pd.T) (l:List Po.T) (pu u:Value) (s:Po.S) (hs:Pd.size p≤4611686018427387904) (hl8:l.length≤8) (hfit:Po.fits (.mk 3 p f v l)=true) (hwd:Po.wide (.mk 3 p f v l)<1000) (hx:Po.At F (.mk 3 p f v l) pu u)
  (ih:∀ (i:Nat) (hi:i<l.length) (G:Heap) (pw w:Value) (t:Po.S),Po.At G l[i] pw w→NCall Tryz.prog 94 [.agg (Po.cs l[i] pw w),.int .i64 sw,.int .i64 t.port,.agg [.int .i64 t.p0,.int .i64 t.p1,.int .i64 t.p2,.int .i64 t.p3]] [hpB G] fun r m=>Po.Sents G (Po.runs sw l[i] t) r m) :
  NCall Tryz.prog 94 [.agg (Po.cs (.mk 3 p f v l) pu u),.int .i64 sw,.int .i64 s.port,.agg [.int .i64 s.p0,.int .i64 s.p1,.int .i64 s.p2,.int .i64 s.p3]] [hpB F] fun r m=>Po.Sents F (Po.runs sw (.mk 3 p f v l) s) r m:=by
 refine NCall.fits (K:=fun r m=>∃ F' u,F.le F'∧Po.SRow F' u (Po.runs sw (.mk 3 p f v l) s)∧r = .hs u (Po.runs sw (.mk 3 p f v l) s).length∧MemFits m [hpB F']) ?_ fun r m' ⟨F',u,h1,h2,h3,h4⟩=>⟨r,_,rfl,h4,F',u,h1,h2,h3,rfl⟩
 have hu:Po.Row F u l:=hx.l
 have hpu:Pd.Row F pu p.l:=hx.p
 have hok:=hu.ok
 have hpok:=hpu.ok
 have ch:=refhits26_c F (s.at_ sw) _ p pu (Nat.le_refl _) hs hpu
 obtain ⟨hq1,hq2⟩:=Po.seq_parts sw 0 hfit hwd s
 have eR:=Po.runs_k3 sw f v p l s
 have eZ:Po.runsQ sw (l.take 0) [s]=[s]:=by rw [List.take_zero,Po.runsQ]
 have eT:∀ i (hi:i<l.length),Po.runsQ sw (l.take (i+1)) [s]=Po.thenS sw l[i] (Po.runsQ sw (l.take i) [s]):=fun i hi=>Po.runsQ_take sw hi [s]
 rw [eR]
 clear eR hfit hwd hx
 generalize Pd.hits (s.at_ sw) p=hh at *
 clear hpu
 obtain ⟨pk,pf,pv,pl⟩:=p
 have hone:∀ w:Value,SlOk w 1→Po.SRow (addF F (addrOf w) (denL s.av)) w [s]:=fun w hw=>rowF_new (F:=F) (sz:=5) (enc:=Po.S.vs) hw (by rw [Po.S.den];simp) (fun x _=>rfl)
 obtain ⟨a0,a1,a2,a3,a4⟩:=s
 simp only [pd_cs,po_cs,Pd.T.k,Pd.T.f,Pd.T.v,Pd.T.l,Po.S.at_,Pd.At.pk,Po.S.av] at *
 generalize hQ:(fun i=>Po.runsQ sw (l.take i) [⟨a0,a1,a2,a3,a4⟩])=Q
 have eQ:∀ i,Po.runsQ sw (l.take i) [⟨a0,a1,a2,a3,a4⟩]=Q i:=fun i=>by rw [← hQ]
 have eL:Po.runsQ sw l [⟨a0,a1,a2,a3,a4⟩]=Q l.length:=by rw [← hQ];simp
 rw [eL]
 simp only [eQ] at hq1 eZ eT
 clear eQ eL hQ
 refine ncall_of Tryz.func94 rfl (by decide) ?_
 (repeat' (first|(with_reducible first|(refine hK _ _ ?_;clear hK K)|(refine hA ?_;clear hA hB A B)|(refine hB ?_;clear hA hB A B)|(refine hK _ ?_;clear hK K))|((with_reducible refine z25 ?_);intro K hK;(conv=>whnf))|(with_reducible refine z0 ?_)|((first|((with_reducible refine NIf.decY ?s ?_);case s=>with_reducible rfl)|((with_reducible refine NIf.decN ?s ?_);case s=>omega)|(with_reducible refine NN.a5 ?_)|((with_reducible refine NH.mk ?s ?_);case s=>(and_intros<;>first|with_reducible rfl|((with_reducible refine gOnes ?_);rfl)|((with_reducible refine gLen ?_);rfl)|omega))|((with_reducible refine NCall.isF 129 ?_);refine NCall.subE [0] (ch) rfl (by decide) rfl rfl ?_))<;>(conv=>whnf))|(with_reducible first|refine z3 ?_|refine z4 ?_|refine z5 ?_)|((with_reducible refine z29 ?_);intro A B hA hB;(conv=>whnf))|(with_reducible first|refine z1 ?_|refine z2 ?_)|((with_reducible refine gF ?_);(refine z33 rfl ?_;intro K hK;(conv=>whnf)))|((intro _;skip)<;>(conv=>whnf))))
 refine st_autoK (α:=Heap × Value × Nat) (fun (G,w,i)=>F.le G∧i≤l.length∧Po.SRow G w (Q i)) (fun (G,w,i)=>[.keep,.keep,.keep,.keep,.keep,.keep,.keep,.keep,.keep,.set (.hs w (Q i).length),.keep,.set (.int .i64 i),.drop,.drop,.keep,.keep,.keep,.keep,.keep,.keep,.keep,.keep,.keep,.keep,.keep,.keep,.keep,.keep,.keep,.keep,.keep,.keep,.keep,.keep,.keep,.keep,.keep,.keep,.keep,.keep,.keep,.keep,.keep,.keep,.keep,.keep,.keep,.keep,.keep,.keep,.keep,.keep,.keep,.keep,.keep,.keep,.keep,.keep,.drop,.drop,.drop,.drop,.drop,.drop,.drop,.drop,.drop,.drop,.drop,.drop,.drop,.drop,.drop,.drop,.drop,.drop,.drop,.drop,.drop,.drop,.drop,.drop,.drop,.drop,.drop,.drop,.drop,.drop,.drop,.drop,.drop,.keep,.keep,.keep,.keep,.keep,.keep,.keep,.keep,.keep,.keep,.keep,.keep,.keep,.keep,.keep,.keep,.keep,.keep,.keep,.keep,.keep,.keep,.keep,.keep,.keep,.keep,.keep,.keep,.keep,.keep,.keep,.keep,.keep,.keep,.keep,.keep,.keep,.keep,.keep,.keep]) (fun (G,w,i)=>[.set (hpB G),.keep,.keep,.set (hpB noHeap),.set (hpB noHeap)]) (fun (G,w,i)=>l.length - i) ?_ ?_
 ·rename_i v9
  rintro ⟨W0,hW0⟩
  have hok1:SlOk v9 1:=(hW0.row (List.mem_cons_of_mem _ (List.mem_cons_of_mem _ (List.mem_cons_of_mem _ (List.mem_cons_of_mem _ (List.mem_singleton.2 rfl)))))).1
  refine ⟨(addF F (addrOf v9) (denL [.int .i64 a0,.int .i64 a1,.int .i64 a2,.int .i64 a3,.int .i64 a4]),v9,0),⟨addF.old,Nat.zero_le _,eZ ▸ hone v9 hok1⟩,?_,MemFits.frz3⟩
  dsimp only
  rw [eZ]
  repeat (first|exact FitsSl.nil|refine FitsSl.any ?_|refine FitsSl.cons (Fit1.slhs (by  rfl)) ?_|refine FitsSl.cons (Fit1.int (by first | rfl | omega)) ?_|refine FitsSl.cons (Fit1.bool rfl) ?_|refine FitsSl.cons (Fit1.same (by intro h;cases h) (by with_reducible rfl)) ?_)
 (intro ⟨G,w,i⟩ ⟨hle,hi,hw⟩;intro K hK;(conv=>whnf);refine hK _ _ ?_;clear hK K)
 dsimp only
 by_cases hlt:i<l.length
 ·have hx:l[i]?=some l[i]:=List.getElem?_eq_getElem hlt
  have hcell:=fun G2 (h:F.le G2)=>(Po.Row.mono h hu).get hx
  have hln:=hq1 i
  obtain ⟨hw1,hw2⟩:=hq2 i hlt
  have ih:=ih i hlt
  have eT:=eT i hlt
  have hwo:=hw.ok
  clear hq1 hq2 eZ hone ch hx
  generalize l[i]=y at *
  generalize hO:Q i=O at *
  have hPl:∀ k (hk:k<O.length),((O.take k).foldl (fun next t=>Po.both next (Po.runs sw y t)) []).length+(Po.runs sw y O[k]).length≤1000000:=fun k hk=>by
   have h1:=Po.fold_len sw y (Po.wide y) hw2 (O.take k) []
   have h2:=hw2 O[k]
   rw [List.length_take,Nat.min_eq_left (by omega),List.length_nil] at h1
   have h3:=Nat.mul_le_mul (show k+1≤1000 by omega) (show Po.wide y≤1000 by omega)
   rw [Nat.succ_mul] at h3
   omega
  have hPs:=fun k (hk:k<O.length)=>Po.fold_take sw y hk
  have hPe:(O.take O.length).foldl (fun next t=>Po.both next (Po.runs sw y t)) []=Q (i+1):=by rw [List.take_length,eT];rfl
  generalize hP:(fun k=>(O.take k).foldl (fun next t=>Po.both next (Po.runs sw y t)) [])=P
  have eP:∀ k,(O.take k).foldl (fun next t=>Po.both next (Po.runs sw y t)) []=P k:=fun k=>by rw [← hP]
  have eP0:P 0=[]:=by rw [← hP];simp
  simp only [eP] at hPl hPs hPe
  clear eP hP eT hw1 hw2
  (repeat' (first|(with_reducible first|(refine hK _ _ ?_;clear hK K)|(refine hA ?_;clear hA hB A B))|((with_reducible refine z25 ?_);intro K hK;(conv=>whnf))|(with_reducible refine z0 ?_)|((first|((with_reducible refine NIf.decY ?s ?_);case s=>omega)|(with_reducible refine NN.a5 ?_)|((with_reducible refine NH.mk ?s ?_);case s=>(and_intros<;>first|with_reducible rfl|omega)))<;>(conv=>whnf))|(with_reducible first|refine z3 ?_|refine z4 ?_|refine z5 ?_|refine z6 ?_)|((with_reducible refine z29 ?_);intro A B hA hB;(conv=>whnf))|(with_reducible first|refine z1 ?_|refine z2 ?_)))
  refine st_auto (α:=Heap × Value × Nat) (fun (G2,w2,k)=>G.le G2∧k≤O.length∧Po.SRow G2 w2 (P k)) (fun (G2,w2,k)=>[.keep,.keep,.keep,.keep,.keep,.keep,.keep,.keep,.keep,.keep,.keep,.keep,.set (.hs w2 (P k).length),.set (.int .i64 k),.keep,.keep,.keep,.keep,.keep,.keep,.keep,.keep,.keep,.keep,.keep,.keep,.keep,.keep,.keep,.keep,.keep,.keep,.keep,.keep,.keep,.keep,.keep,.keep,.keep,.keep,.keep,.keep,.keep,.keep,.keep,.keep,.keep,.keep,.keep,.keep,.keep,.keep,.keep,.keep,.keep,.keep,.keep,.keep,.keep,.keep,.keep,.keep,.keep,.keep,.keep,.drop,.drop,.drop,.drop,.drop,.drop,.drop,.drop,.drop,.drop,.drop,.drop,.drop,.drop,.drop,.drop,.drop,.drop,.drop,.drop,.drop,.drop,.drop,.drop,.drop,.keep,.keep,.keep,.keep,.keep,.keep,.keep,.keep,.keep,.keep,.keep,.keep,.keep,.keep,.keep,.keep,.keep,.keep,.keep,.keep,.keep,.keep,.keep,.keep,.keep,.keep,.keep,.keep,.keep,.keep,.keep,.keep,.keep,.keep,.keep,.keep,.keep,.keep,.keep,.keep,.keep]) (fun (G2,w2,k)=>[.keep,.keep,.keep,.keep,.set (hpB G2)]) (fun (G2,w2,k)=>O.length - k) (G,.slice none 0 0,0) ⟨G.le_refl,Nat.zero_le _,eP0 ▸ RowF.nil⟩ ?_ MemFits.in3 ?_
  ·dsimp only
   rw [eP0]
   repeat (first|exact FitsSl.nil|refine FitsSl.any ?_|refine FitsSl.cons (Fit1.nilhs (by  rfl)) ?_|refine FitsSl.cons (Fit1.int (by first | rfl | omega)) ?_|refine FitsSl.cons (Fit1.bool rfl) ?_|refine FitsSl.cons (Fit1.same (by intro h;cases h) (by with_reducible rfl)) ?_)
  (intro ⟨G2,w2,k⟩ ⟨hle2,hk,hr2⟩;intro K hK;(conv=>whnf);refine hK _ _ ?_;clear hK K)
  dsimp only
  have hro:=hr2.ok
  by_cases hlt2:k<O.length
  ·have hx2:O[k]?=some O[k]:=List.getElem?_eq_getElem hlt2
   obtain ⟨g0,g1,g2,g3,g4⟩:=RowF.get5 (f0:=fun s:Po.S=>.int .i64 s.port) (f1:=fun s=>.int .i64 s.p0) (f2:=fun s=>.int .i64 s.p1) (f3:=fun s=>.int .i64 s.p2) (f4:=fun s=>.int .i64 s.p3) hw hlt2
   obtain ⟨pA,pcap,A,cap,hA,c0,c1,c2,c3,c4,c5,c6,c7⟩:=hcell G hle
   have cr:=ih G2 _ _ O[k] (Po.At.mono hle2 hA)
   have hAo:=hA.l.ok
   have hAp:=hA.p.ok
   have cb:=fun G3 (h:G2.le G3) v3 (hv3:Po.SRow G3 v3 (Po.runs sw y O[k]))=>both27_c G3 w2 v3 (P k) (Po.runs sw y O[k]) (hPl k hlt2) (Po.SRow.mono h hr2) hv3
   rw [← hPs k hlt2] at cb
   clear hPl hPs hPe ih hcell hx2
   generalize O[k]=x at *
   generalize Po.runs sw y x=L at *
   generalize hPk1:P (k+1)=P1 at *
   generalize P k=P0 at *
   obtain ⟨yk,⟨ypk,ypf,ypv,ypl⟩,yf,yv,yl⟩:=y
   obtain ⟨x0,x1,x2,x3,x4⟩:=x
   simp only [Po.cs,Po.T.k,Po.T.p,Po.T.f,Po.T.v,Po.T.l,Pd.T.k,Pd.T.f,Pd.T.v,Pd.T.l] at *
   (repeat' (first|(with_reducible first|(refine hK _ _ ?_;clear hK K)|(refine hA ?_;clear hA hB A B)|(refine hK _ ?_;clear hK K))|((with_reducible refine z25 ?_);intro K hK;(conv=>whnf))|(with_reducible refine z0 ?_)|((first|((with_reducible refine NV.i64 ?s ?_);case s=>omega)|((with_reducible refine NIf.decY ?s ?_);case s=>omega)|(with_reducible first|refine NN.cast ?_|refine NN.a5 ?_|refine NN.a6 ?_|refine NN.keep ?_)|((with_reducible refine NH.mk ?s ?_);case s=>(and_intros<;>first|((with_reducible refine gKept ?_);exact rfl)|omega|rfl))|((with_reducible refine NCall.isF 94 ?_);refine NCall.subw [4] _ _ (cr) rfl (by decide) rfl ?_;rintro _ _ ⟨G3,v3,hle3,hv3,rfl,rfl⟩;refine ⟨Nat.le_of_ble_eq_true rfl,_,rfl,?_⟩)|((with_reducible refine NCall.isF 131 ?_);refine NCall.subw [4] _ _ (cb G3 hle3 v3 hv3) rfl (by decide) rfl ?_;rintro _ _ ⟨G4,v4,hle4,hv4,rfl,rfl⟩;refine ⟨Nat.le_of_ble_eq_true rfl,_,rfl,?_⟩)|(with_reducible refine NLd.of (by with_reducible assumption) ?_))<;>(conv=>whnf))|(with_reducible refine st_ordSout ?_)|((with_reducible refine gNOK ?_);(first|(refine st_ordK1 rfl (by kernel_rfl) rfl ?_;intro K hK;(conv=>whnf))|refine st_ordK0 rfl (by kernel_rfl) ?_|refine st_ordKA rfl rfl (by kernel_rfl) (by intro h;cases h) ?_))|((with_reducible refine gNEK ?_);(first|(refine st_eachK ?_ ?_;(intro K hK;(conv=>whnf)))|exact st_eachK0))|((with_reducible refine gX ?_);(first|refine st_orderS [4] rfl rfl (by kernel_rfl) _ rfl ?_|(with_reducible first|refine z3 ?_|refine z4 ?_|refine z5 ?_|refine z6 ?_)|((with_reducible refine z29 ?_);intro A B hA hB;(conv=>whnf))))|(with_reducible first|refine z1 ?_|refine z2 ?_|refine z9 ?_)))
   all_goals
    refine st_round (G4,v4,k+1) ⟨hle2.trans (hle3.trans hle4),hlt2,hPk1 ▸ hv4⟩ (by show O.length - (k+1)<O.length - k;omega) ?_ (MemFits.eq rfl)
    dsimp only
    rw [hPk1]
    repeat (first|exact FitsSl.nil|refine FitsSl.any ?_|refine FitsSl.cons (Fit1.int (by first | rfl | omega)) ?_|refine FitsSl.cons (Fit1.bool rfl) ?_|refine FitsSl.cons (Fit1.same (by intro h;cases h) (by with_reducible rfl)) ?_)
  ·have hkl:k=O.length:=by omega
   subst hkl
   rw [hPe] at hr2 hro ⊢
   clear hPl hPs hcell ih
   (repeat' (first|(with_reducible first|(refine hK _ _ ?_;clear hK K)|(refine hB ?_;clear hA hB A B))|((with_reducible refine z25 ?_);intro K hK;(conv=>whnf))|(with_reducible refine z0 ?_)|((first|((with_reducible refine NV.i64 ?s ?_);case s=>omega)|((with_reducible refine NIf.decN ?s ?_);case s=>omega)|((with_reducible refine NH.mk ?s ?_);case s=>(and_intros<;>omega)))<;>(conv=>whnf))|(with_reducible first|refine z3 ?_|refine z4 ?_|refine z7 ?_)|((with_reducible refine z29 ?_);intro A B hA hB;(conv=>whnf))|(with_reducible first|refine z1 ?_|refine z2 ?_|refine z9 ?_|refine z10 ?_|refine z11 ?_|refine z19 ?_)))
   refine st_round (G2,w2,i+1) ⟨hle.trans hle2,hlt,hr2⟩ (by show l.length - (i+1)<l.length - i;omega) ?_ MemFits.out3
   dsimp only
   repeat (first|exact FitsSl.nil|refine FitsSl.any ?_|refine FitsSl.cons (Fit1.int (by first | rfl | omega)) ?_|refine FitsSl.cons (Fit1.bool rfl) ?_|refine FitsSl.cons (Fit1.same (by intro h;cases h) (by with_reducible rfl)) ?_)
 ·have hil:i=l.length:=by omega
  subst hil
  have hwo:=hw.ok
  (repeat' (first|(with_reducible first|(refine hK _ _ ?_;clear hK K)|(refine hB ?_;clear hA hB A B)|(refine hK _ ?_;clear hK K))|((with_reducible refine z25 ?_);intro K hK;(conv=>whnf))|(with_reducible refine z0 ?_)|((first|((with_reducible refine NIf.decN ?s ?_);case s=>omega)|(with_reducible refine NN.a5 ?_)|((with_reducible refine NH.mk ?s ?_);case s=>(and_intros<;>first|with_reducible rfl|omega)))<;>(conv=>whnf))|(with_reducible first|refine z3 ?_|refine z4 ?_|refine z7 ?_|refine z8 ?_)|((with_reducible refine z29 ?_);intro A B hA hB;(conv=>whnf))|(with_reducible first|refine z1 ?_|refine z2 ?_|refine z9 ?_|refine z10 ?_|refine z11 ?_|refine z19 ?_)|((with_reducible refine gR ?_);(refine z31 rfl ?_;intro K hK;(conv=>whnf)))))
  all_goals exact ⟨G,w,hle,hw,rfl,MemFits.pre 1 rfl⟩
theorem refrun27_4 (F:Heap) (sw:Int) (f v:Int) (p:Pd.T) (l:List Po.T) (pu u:Value) (s:Po.S) (hs:Pd.size p≤4611686018427387904) (hl8:l.length≤8) (hfit:Po.fits (.mk 4 p f v l)=true) (hwd:Po.wide (.mk 4 p f v l)<1000) (hx:Po.At F (.mk 4 p f v l) pu u)
  (ih:∀ (i:Nat) (hi:i<l.length) (G:Heap) (pw w:Value) (t:Po.S),Po.At G l[i] pw w→NCall Tryz.prog 94 [.agg (Po.cs l[i] pw w),.int .i64 sw,.int .i64 t.port,.agg [.int .i64 t.p0,.int .i64 t.p1,.int .i64 t.p2,.int .i64 t.p3]] [hpB G] fun r m=>Po.Sents G (Po.runs sw l[i] t) r m) :
  NCall Tryz.prog 94 [.agg (Po.cs (.mk 4 p f v l) pu u),.int .i64 sw,.int .i64 s.port,.agg [.int .i64 s.p0,.int .i64 s.p1,.int .i64 s.p2,.int .i64 s.p3]] [hpB F] fun r m=>Po.Sents F (Po.runs sw (.mk 4 p f v l) s) r m:=by
 refine NCall.fits (K:=fun r m=>∃ F' u,F.le F'∧Po.SRow F' u (Po.runs sw (.mk 4 p f v l) s)∧r = .hs u (Po.runs sw (.mk 4 p f v l) s).length∧MemFits m [hpB F']) ?_ fun r m' ⟨F',u,h1,h2,h3,h4⟩=>⟨r,_,rfl,h4,F',u,h1,h2,h3,rfl⟩
 have hu:Po.Row F u l:=hx.l
 have hpu:Pd.Row F pu p.l:=hx.p
 have hok:=hu.ok
 have hpok:=hpu.ok
 have ch:=refhits26_c F (s.at_ sw) _ p pu (Nat.le_refl _) hs hpu
 obtain ⟨hq1,hq2⟩:=Po.uni_parts sw hfit hwd s
 have eR:=Po.runs_k4 sw f v p l s
 have eZ:Po.runsU sw (l.take 0) s []=[]:=Po.runsU_nil sw s
 have eT:∀ i (hi:i<l.length),Po.runsU sw (l.take (i+1)) s []=Po.both (Po.runsU sw (l.take i) s []) (Po.runs sw l[i] s):=fun i hi=>Po.runsU_take sw hi s []
 rw [eR]
 clear eR hfit hwd hx
 generalize Pd.hits (s.at_ sw) p=hh at *
 clear hpu
 obtain ⟨pk,pf,pv,pl⟩:=p
 generalize hQ:(fun i=>Po.runsU sw (l.take i) s [])=Q
 have eQ:∀ i,Po.runsU sw (l.take i) s []=Q i:=fun i=>by rw [← hQ]
 have eL:Po.runsU sw l s []=Q l.length:=by rw [← hQ];exact congrArg (fun z=>Po.runsU sw z s []) List.take_length.symm
 rw [eL]
 simp only [eQ] at hq1 eZ eT
 clear eQ eL hQ
 have hbd:∀ i (hi:i<l.length),(Q i).length+(Po.runs sw l[i] s).length≤1000000:=fun i hi=>by
  have h1:=hq1 i
  obtain ⟨h2,h3⟩:=hq2 i hi
  have h3:=h3 s
  omega
 have ih:=fun i hi G pw w=>ih i hi G pw w s
 clear hq1 hq2
 obtain ⟨a0,a1,a2,a3,a4⟩:=s
 simp only [pd_cs,po_cs,Pd.T.k,Pd.T.f,Pd.T.v,Pd.T.l,Po.S.at_,Pd.At.pk,Po.S.av] at *
 refine ncall_of Tryz.func94 rfl (by decide) ?_
 (repeat' (first|(with_reducible first|(refine hK _ _ ?_;clear hK K)|(refine hA ?_;clear hA hB A B)|(refine hB ?_;clear hA hB A B)|(refine hK _ ?_;clear hK K))|((with_reducible refine z25 ?_);intro K hK;(conv=>whnf))|(with_reducible refine z0 ?_)|((first|((with_reducible refine NIf.decY ?s ?_);case s=>with_reducible rfl)|((with_reducible refine NIf.decN ?s ?_);case s=>omega)|(with_reducible refine NN.a5 ?_)|((with_reducible refine NH.mk ?s ?_);case s=>(and_intros<;>with_reducible rfl))|((with_reducible refine NCall.isF 129 ?_);refine NCall.subE [0] (ch) rfl (by decide) rfl rfl ?_))<;>(conv=>whnf))|(with_reducible first|refine z3 ?_|refine z4 ?_|refine z5 ?_)|((with_reducible refine z29 ?_);intro A B hA hB;(conv=>whnf))|(with_reducible first|refine z1 ?_|refine z2 ?_)|((with_reducible refine gF ?_);(refine z33 rfl ?_;intro K hK;(conv=>whnf)))|((intro _;skip)<;>(conv=>whnf))))
 refine st_auto (α:=Heap × Value × Nat) (fun (G,w,i)=>F.le G∧i≤l.length∧Po.SRow G w (Q i)) (fun (G,w,i)=>[.keep,.keep,.keep,.keep,.keep,.keep,.keep,.keep,.keep,.set (.hs w (Q i).length),.keep,.keep,.keep,.keep,.set (.int .i64 i),.keep,.keep,.keep,.keep,.keep,.keep,.keep,.keep,.keep,.keep,.keep,.keep,.keep,.keep,.keep,.keep,.keep,.keep,.keep,.keep,.keep,.keep,.keep,.keep,.keep,.keep,.keep,.keep,.keep,.keep,.keep,.keep,.keep,.keep,.keep,.keep,.keep,.keep,.keep,.keep,.keep,.keep,.keep,.keep,.keep,.keep,.keep,.keep,.keep,.keep,.keep,.keep,.keep,.keep,.keep,.keep,.keep,.keep,.keep,.keep,.keep,.keep,.keep,.keep,.keep,.keep,.keep,.keep,.keep,.keep,.keep,.keep,.keep,.keep,.keep,.keep,.keep,.keep,.drop,.drop,.drop,.drop,.drop,.drop,.drop,.drop,.drop,.drop,.drop,.drop,.drop,.drop,.drop,.drop,.drop,.drop,.keep,.keep,.keep,.keep,.keep,.keep,.keep,.keep,.keep,.keep,.keep,.keep,.keep,.keep,.keep,.keep,.keep,.keep,.keep,.keep]) (fun (G,w,i)=>[.keep,.keep,.keep,.set (hpB G)]) (fun (G,w,i)=>l.length - i) (F,.slice none 0 0,0) ⟨F.le_refl,Nat.zero_le _,eZ ▸ RowF.nil⟩ ?_ MemFits.in2 ?_
 ·dsimp only
  rw [eZ]
  repeat (first|exact FitsSl.nil|refine FitsSl.any ?_|refine FitsSl.cons (Fit1.nilhs (by  rfl)) ?_|refine FitsSl.cons (Fit1.int (by first | rfl | omega)) ?_|refine FitsSl.cons (Fit1.bool rfl) ?_|refine FitsSl.cons (Fit1.same (by intro h;cases h) (by with_reducible rfl)) ?_)
 (intro ⟨G,w,i⟩ ⟨hle,hi,hw⟩;intro K hK;(conv=>whnf);refine hK _ _ ?_;clear hK K)
 dsimp only
 by_cases hlt:i<l.length
 ·have hx:l[i]?=some l[i]:=List.getElem?_eq_getElem hlt
  obtain ⟨pA,pcap,A,cap,hA,c0,c1,c2,c3,c4,c5,c6,c7⟩:=hu.get hx
  have hbd:=hbd i hlt
  have cr:=ih i hlt G _ _ (Po.At.mono hle hA)
  have eT:=eT i hlt
  have hwo:=hw.ok
  have hAo:=hA.l.ok
  have hAp:=hA.p.ok
  have cb:=fun G3 (h:G.le G3) v3 (hv3:Po.SRow G3 v3 (Po.runs sw l[i] ⟨a0,a1,a2,a3,a4⟩))=>both27_c G3 w v3 (Q i) (Po.runs sw l[i] ⟨a0,a1,a2,a3,a4⟩) hbd (Po.SRow.mono h hw) hv3
  rw [← eT] at cb
  clear eZ ch hx ih eT hbd
  generalize Po.runs sw l[i] ⟨a0,a1,a2,a3,a4⟩=L at *
  generalize l[i]=y at *
  generalize Q i=O at *
  generalize hP1:Q (i+1)=P1 at *
  obtain ⟨yk,⟨ypk,ypf,ypv,ypl⟩,yf,yv,yl⟩:=y
  simp only [Po.cs,Po.T.k,Po.T.p,Po.T.f,Po.T.v,Po.T.l,Pd.T.k,Pd.T.f,Pd.T.v,Pd.T.l] at *
  (repeat' (first|(with_reducible first|(refine hK _ _ ?_;clear hK K)|(refine hA ?_;clear hA hB A B)|(refine hK _ ?_;clear hK K))|((with_reducible refine z25 ?_);intro K hK;(conv=>whnf))|(with_reducible refine z0 ?_)|((first|((with_reducible refine NV.i64 ?s ?_);case s=>omega)|((with_reducible refine NIf.decY ?s ?_);case s=>omega)|(with_reducible first|refine NN.cast ?_|refine NN.a5 ?_|refine NN.keep ?_)|((with_reducible refine NH.mk ?s ?_);case s=>(and_intros<;>first|with_reducible rfl|((with_reducible refine gKept ?_);exact rfl)|omega|rfl))|((with_reducible refine NCall.isF 94 ?_);refine NCall.subw [3] _ _ (cr) rfl (by decide) rfl ?_;rintro _ _ ⟨G3,v3,hle3,hv3,rfl,rfl⟩;refine ⟨Nat.le_of_ble_eq_true rfl,_,rfl,?_⟩)|((with_reducible refine NCall.isF 131 ?_);refine NCall.subw [3] _ _ (cb G3 hle3 v3 hv3) rfl (by decide) rfl ?_;rintro _ _ ⟨G4,v4,hle4,hv4,rfl,rfl⟩;refine ⟨Nat.le_of_ble_eq_true rfl,_,rfl,?_⟩)|(with_reducible refine NLd.of (by with_reducible assumption) ?_))<;>(conv=>whnf))|(with_reducible refine st_ordSout ?_)|((with_reducible refine gNOK ?_);(first|(refine st_ordK1 rfl (by kernel_rfl) rfl ?_;intro K hK;(conv=>whnf))|refine st_ordK0 rfl (by kernel_rfl) ?_|refine st_ordKA rfl rfl (by kernel_rfl) (by intro h;cases h) ?_))|((with_reducible refine gNEK ?_);(first|(refine st_eachK ?_ ?_;(intro K hK;(conv=>whnf)))|exact st_eachK0))|((with_reducible refine gX ?_);(first|refine st_orderS [3] rfl rfl (by kernel_rfl) _ rfl ?_|(with_reducible first|refine z3 ?_|refine z4 ?_|refine z5 ?_|refine z6 ?_)|((with_reducible refine z29 ?_);intro A B hA hB;(conv=>whnf))))|(with_reducible first|refine z1 ?_|refine z2 ?_|refine z9 ?_)))
  all_goals
   refine st_round (G4,v4,i+1) ⟨hle.trans (hle3.trans hle4),hlt,hP1 ▸ hv4⟩ (by show l.length - (i+1)<l.length - i;omega) ?_ (MemFits.eq rfl)
   dsimp only
   rw [hP1]
   repeat (first|exact FitsSl.nil|refine FitsSl.any ?_|refine FitsSl.cons (Fit1.int (by first | rfl | omega)) ?_|refine FitsSl.cons (Fit1.bool rfl) ?_|refine FitsSl.cons (Fit1.same (by intro h;cases h) (by with_reducible rfl)) ?_)
 ·have hil:i=l.length:=by omega
  subst hil
  have hwo:=hw.ok
  (repeat' (first|(with_reducible first|(refine hK _ _ ?_;clear hK K)|(refine hB ?_;clear hA hB A B)|(refine hK _ ?_;clear hK K))|((with_reducible refine z25 ?_);intro K hK;(conv=>whnf))|(with_reducible refine z0 ?_)|((first|((with_reducible refine NIf.decN ?s ?_);case s=>omega)|(with_reducible refine NN.a5 ?_)|((with_reducible refine NH.mk ?s ?_);case s=>(and_intros<;>first|with_reducible rfl|omega)))<;>(conv=>whnf))|(with_reducible first|refine z3 ?_|refine z4 ?_|refine z7 ?_|refine z8 ?_)|((with_reducible refine z29 ?_);intro A B hA hB;(conv=>whnf))|(with_reducible first|refine z1 ?_|refine z2 ?_|refine z9 ?_|refine z10 ?_|refine z11 ?_|refine z19 ?_)|((with_reducible refine gR ?_);(refine z31 rfl ?_;intro K hK;(conv=>whnf)))))
  all_goals exact ⟨G,w,hle,hw,rfl,MemFits.pick [3] (by decide) rfl⟩
theorem refrun27_5 (F:Heap) (sw:Int) (f v:Int) (p:Pd.T) (a b:Po.T) (pu u:Value) (s:Po.S) (hs:Pd.size p≤4611686018427387904) (hx:Po.At F (.mk 5 p f v [a,b]) pu u)
  (ca:∀ (pw w:Value),Po.At F a pw w→NCall Tryz.prog 94 [.agg (Po.cs a pw w),.int .i64 sw,.int .i64 s.port,.agg [.int .i64 s.p0,.int .i64 s.p1,.int .i64 s.p2,.int .i64 s.p3]] [hpB F] fun r m=>Po.Sents F (Po.runs sw a s) r m)
  (cb:∀ (pw w:Value),Po.At F b pw w→NCall Tryz.prog 94 [.agg (Po.cs b pw w),.int .i64 sw,.int .i64 s.port,.agg [.int .i64 s.p0,.int .i64 s.p1,.int .i64 s.p2,.int .i64 s.p3]] [hpB F] fun r m=>Po.Sents F (Po.runs sw b s) r m) :
  NCall Tryz.prog 94 [.agg (Po.cs (.mk 5 p f v [a,b]) pu u),.int .i64 sw,.int .i64 s.port,.agg [.int .i64 s.p0,.int .i64 s.p1,.int .i64 s.p2,.int .i64 s.p3]] [hpB F] fun r m=>Po.Sents F (Po.runs sw (.mk 5 p f v [a,b]) s) r m:=by
 refine NCall.pre (mL:=[hpB F,hpB F]) ?_ rfl (MemFits.dup F.le_refl [])
 refine NCall.fits (K:=fun r m=>∃ F' u,F.le F'∧Po.SRow F' u (Po.runs sw (.mk 5 p f v [a,b]) s)∧r = .hs u (Po.runs sw (.mk 5 p f v [a,b]) s).length∧MemFits m [hpB F']) ?_ fun r m' ⟨F',u,h1,h2,h3,h4⟩=>⟨r,_,rfl,h4,F',u,h1,h2,h3,rfl⟩
 have hu:Po.Row F u [a,b]:=hx.l
 have hpu:Pd.Row F pu p.l:=hx.p
 have hok:=hu.ok
 have hpok:=hpu.ok
 have ch:=refhits26_c F (s.at_ sw) _ p pu (Nat.le_refl _) hs hpu
 have eR:=Po.runs_k5 sw f v p a b s
 rw [eR]
 clear eR hx
 generalize Pd.hits (s.at_ sw) p=hh at *
 obtain ⟨pA,pcap,A,cap,hA,c0,c1,c2,c3,c4,c5,c6,c7⟩:=hu.get (i:=0) rfl
 obtain ⟨pB,pcap',B,cap',hB,d0,d1,d2,d3,d4,d5,d6,d7⟩:=hu.get (i:=1) rfl
 have ca:=ca _ _ hA
 have cb:=cb _ _ hB
 have hAo:=hA.l.ok
 have hAp:=hA.p.ok
 have hBo:=hB.l.ok
 have hBp:=hB.p.ok
 clear hpu
 generalize Po.runs sw a s=La at *
 generalize Po.runs sw b s=Lb at *
 obtain ⟨pk,pf,pv,pl⟩:=p
 obtain ⟨a0,a1,a2,a3,a4⟩:=s
 obtain ⟨ak,⟨apk,apf,apv,apl⟩,af,av,al⟩:=a
 obtain ⟨bk,⟨bpk,bpf,bpv,bpl⟩,bf,bv,bl⟩:=b
 simp only [pd_cs,po_cs,Po.cs,Po.T.k,Po.T.p,Po.T.f,Po.T.v,Po.T.l,Pd.T.k,Pd.T.f,Pd.T.v,Pd.T.l,Po.S.at_,Pd.At.pk,Po.S.av,List.length_cons,List.length_nil] at *
 cases hh with
 | true =>
  rw [if_pos rfl]
  refine ncall_of Tryz.func94 rfl (by decide) ?_
  (repeat' (first|(with_reducible first|(refine hK _ _ ?_;clear hK K)|(refine hA ?_;clear hA hB A B)|(refine hB ?_;clear hA hB A B)|(refine hK _ ?_;clear hK K))|((with_reducible refine z25 ?_);intro K hK;(conv=>whnf))|(with_reducible refine z0 ?_)|((first|((with_reducible refine NIf.decY ?s ?_);case s=>with_reducible rfl)|((with_reducible refine NIf.decN ?s ?_);case s=>omega)|((with_reducible refine NIf.yes ?s ?_);case s=>rfl)|(with_reducible first|refine NN.lit ?_|refine NN.a5 ?_|refine NN.a6 ?_)|((with_reducible refine NH.mk ?s ?_);case s=>(and_intros<;>first|with_reducible rfl|((with_reducible refine gKept ?_);exact rfl)|omega|rfl))|((with_reducible refine NCall.isF 129 ?_);refine NCall.subE [0] (ch) rfl (by decide) rfl rfl ?_)|((with_reducible refine NCall.isF 94 ?_);refine NCall.subw [1] _ _ (ca) rfl (by decide) rfl ?_;rintro _ _ ⟨G3,v3,hle3,hv3,rfl,rfl⟩;refine ⟨Nat.le_of_ble_eq_true rfl,_,rfl,?_⟩)|(with_reducible refine NLd.of (by with_reducible assumption) ?_))<;>(conv=>whnf))|(with_reducible refine st_ordSout ?_)|((with_reducible refine gNOK ?_);(first|(refine st_ordK1 rfl (by kernel_rfl) rfl ?_;intro K hK;(conv=>whnf))|refine st_ordK0 rfl (by kernel_rfl) ?_|refine st_ordKA rfl rfl (by kernel_rfl) (by intro h;cases h) ?_))|((with_reducible refine gNEK ?_);(first|(refine st_eachK ?_ ?_;(intro K hK;(conv=>whnf)))|exact st_eachK0))|((with_reducible refine gX ?_);(first|refine st_orderS [1] rfl rfl (by kernel_rfl) _ rfl ?_|(with_reducible first|refine z3 ?_|refine z4 ?_|refine z5 ?_|refine z8 ?_)|((with_reducible refine z29 ?_);intro A B hA hB;(conv=>whnf))))|(with_reducible first|refine z1 ?_|refine z2 ?_|refine z12 ?_|refine z13 ?_)|((with_reducible refine gR ?_);(refine z31 rfl ?_;intro K hK;(conv=>whnf)))|((with_reducible refine gF ?_);(refine z33 rfl ?_;intro K hK;(conv=>whnf)))|((intro _;skip)<;>(conv=>whnf))))
  all_goals exact ⟨G3,v3,hle3,hv3,rfl,MemFits.pick [1] (by decide) rfl⟩
 | false =>
  rw [if_neg (by decide)]
  refine ncall_of Tryz.func94 rfl (by decide) ?_
  (repeat' (first|(with_reducible first|(refine hK _ _ ?_;clear hK K)|(refine hA ?_;clear hA hB A B)|(refine hB ?_;clear hA hB A B)|(refine hK _ ?_;clear hK K))|((with_reducible refine z25 ?_);intro K hK;(conv=>whnf))|(with_reducible refine z0 ?_)|((first|((with_reducible refine NIf.decY ?s ?_);case s=>with_reducible rfl)|((with_reducible refine NIf.decN ?s ?_);case s=>omega)|((with_reducible refine NIf.no ?s ?_);case s=>rfl)|(with_reducible first|refine NN.lit ?_|refine NN.a5 ?_|refine NN.a6 ?_)|((with_reducible refine NH.mk ?s ?_);case s=>(and_intros<;>first|with_reducible rfl|((with_reducible refine gKept ?_);exact rfl)|omega|rfl))|((with_reducible refine NCall.isF 129 ?_);refine NCall.subE [0] (ch) rfl (by decide) rfl rfl ?_)|((with_reducible refine NCall.isF 94 ?_);refine NCall.subw [1] _ _ (cb) rfl (by decide) rfl ?_;rintro _ _ ⟨G3,v3,hle3,hv3,rfl,rfl⟩;refine ⟨Nat.le_of_ble_eq_true rfl,_,rfl,?_⟩)|(with_reducible refine NLd.of (by with_reducible assumption) ?_))<;>(conv=>whnf))|(with_reducible refine st_ordSout ?_)|((with_reducible refine gNOK ?_);(first|(refine st_ordK1 rfl (by kernel_rfl) rfl ?_;intro K hK;(conv=>whnf))|refine st_ordK0 rfl (by kernel_rfl) ?_|refine st_ordKA rfl rfl (by kernel_rfl) (by intro h;cases h) ?_))|((with_reducible refine gNEK ?_);(first|(refine st_eachK ?_ ?_;(intro K hK;(conv=>whnf)))|exact st_eachK0))|((with_reducible refine gX ?_);(first|refine st_orderS [1] rfl rfl (by kernel_rfl) _ rfl ?_|(with_reducible first|refine z3 ?_|refine z4 ?_|refine z5 ?_|refine z6 ?_|refine z8 ?_)|((with_reducible refine z29 ?_);intro A B hA hB;(conv=>whnf))))|(with_reducible first|refine z1 ?_|refine z2 ?_|refine z12 ?_|refine z13 ?_)|((with_reducible refine gR ?_);(refine z31 rfl ?_;intro K hK;(conv=>whnf)))|((with_reducible refine gF ?_);(refine z33 rfl ?_;intro K hK;(conv=>whnf)))|((intro _;skip)<;>(conv=>whnf))))
  all_goals exact ⟨G3,v3,hle3,hv3,rfl,MemFits.pick [1] (by decide) rfl⟩
theorem refrun27_c (sw:Int):∀ (n:Nat) (F:Heap) (x:Po.T) (pu u:Value) (s:Po.S),Po.tot x≤n→Po.tot x≤4611686018427387904→Po.fits x=true→Po.wide x<1000→Po.At F x pu u →
  NCall Tryz.prog 94 [.agg (Po.cs x pu u),.int .i64 sw,.int .i64 s.port,.agg [.int .i64 s.p0,.int .i64 s.p1,.int .i64 s.p2,.int .i64 s.p3]] [hpB F] fun r m=>Po.Sents F (Po.runs sw x s) r m
 | 0,F,x,pu,u,s,hn,_,_,_,_=>absurd (Po.tot_pos x) (by omega)
 | n+1,F,⟨k,p,f,v,l⟩,pu,u,s,hn,hs,hf,hw,hx=>by
  have e:=Po.tot_mk k p f v l
  obtain ⟨hsh,hfl⟩:=Po.fits_iff.1 hf
  have hz:Pd.size p≤4611686018427387904:=by omega
  have hl4:∀ y∈l,Po.tot y≤4611686018427387904:=fun y hy=>by have:=Po.tot_lt (k:=k) (q:=p) (f:=f) (v:=v) hy;omega
  have hlt:∀ y∈l,Po.tot y≤n:=fun y hy=>by have:=Po.tot_lt (k:=k) (q:=p) (f:=f) (v:=v) hy;omega
  rcases hsh with ⟨rfl,_⟩ | ⟨rfl,_⟩ | ⟨rfl | rfl,_,_,hl1,hl2⟩ | ⟨rfl,_,_,hl⟩
  ·exact sents_know (refrun27_12 F sw 1 f v p l pu u s (.inl rfl) hz hx)
  ·exact sents_know (refrun27_12 F sw 2 f v p l pu u s (.inr rfl) hz hx)
  ·have hq:=Po.seq_parts sw 0 hf hw s
   exact refrun27_3 F sw f v p l pu u s hz hl2 hf hw hx fun i hi G pw w t hat=>refrun27_c sw n G l[i] pw w t (hlt _ (List.getElem_mem hi)) (hl4 _ (List.getElem_mem hi)) (hfl _ (List.getElem_mem hi)) (hq.2 i hi).1 hat
  ·have hq:=Po.uni_parts sw hf hw s
   exact refrun27_4 F sw f v p l pu u s hz hl2 hf hw hx fun i hi G pw w t hat=>refrun27_c sw n G l[i] pw w t (hlt _ (List.getElem_mem hi)) (hl4 _ (List.getElem_mem hi)) (hfl _ (List.getElem_mem hi)) (hq.2 i hi).1 hat
  ·match l,hl with
   | [a,b],_ =>
    have hq:=Po.if_parts hw
    exact refrun27_5 F sw f v p a b pu u s hz hx (fun pw w hat=>refrun27_c sw n F a pw w s (hlt a (by simp)) (hl4 a (by simp)) (hfl a (by simp)) hq.1 hat) (fun pw w hat=>refrun27_c sw n F b pw w s (hlt b (by simp)) (hl4 b (by simp)) (hfl b (by simp)) hq.2 hat)
end Go.Proofs.YtaolcaggdddkpaaGreat
