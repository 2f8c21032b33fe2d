/- A part of the proof. -/
import Derived.Test.YtmehinfgdcmmjaaGreatDoorTJ3
import Derived.Test.YtmehinfgdcmmjaaGreatDoorTJ10
namespace Go.Sx
theorem Qz.rowPre {P:Program} {f:FuncId} {args args':List AV} {F:Heap} {t:TypeId} {K:AV→List Blk→Prop} (h:Qz P f args' [hpB F,⟨⟨0,0,none⟩,[],.row (.slice none 0 0) t 1 0⟩] K) (hargs:denL args'=denL args):Qz P f args [hpB F] K :=
 Qz.pre h hargs (Qw.nilRow [hpB F] t 1)
end Go.Sx
namespace Go.Proofs.YtmehinfgdcmmjaaGreatDoor
open Go.Sx
set_option maxRecDepth 20000
set_option linter.unusedSimpArgs false
set_option linter.unusedVariables false
set_option maxHeartbeats 4000000
namespace Pd
def oncer (p:Int):List Int→List Int
 | []=>[]
 | y::l=>(if y≠p then [y] else [])++oncer y l
theorem once_cons:∀ (l:List Int) (x:Int),once (x::l)=x::oncer x l
 | [],x=>rfl
 | y::l,x=>by
  rw [once,once_cons l y,oncer]
  split
  ·rename_i h;subst h;simp
  ·rename_i h;rw [if_pos (fun e=>h e.symm)];rfl
theorem oncer_eq:∀ (l:List Int) (p:Int),((List.range l.length).filter fun j=>decide ((p::l)[j+1]!≠(p::l)[j]!)).map (fun j=>(p::l)[j+1]!)=oncer p l
 | [],p=>rfl
 | y::l,p=>by
  have ih:=oncer_eq l y
  rw [List.length_cons,List.range_succ_eq_map,List.filter_cons,List.filter_map,oncer,← ih]
  have e1:((fun j=>decide ((p::y::l)[j+1]!≠(p::y::l)[j]!)) ∘ Nat.succ)=fun j=>decide ((y::l)[j+1]!≠(y::l)[j]!):=by
   funext j
   simp [Function.comp]
  rw [e1]
  by_cases h:y=p
  ·subst h
   simp [Function.comp_def]
  ·simp [h,Function.comp_def]
theorem comp_once (l:List Int):Srt.comp l=once l:=by
 unfold Srt.comp Go.Lib.compact Go.Lib.compactUpTo
 cases l with
 | nil=>rfl
 | cons x l =>
  rw [once_cons,← oncer_eq,List.length_cons,List.range_succ_eq_map,List.filter_cons,List.filter_map]
  have e1:(Go.Lib.keeps (x::l).toArray ∘ Nat.succ)=fun j=>decide ((x::l)[j+1]!≠(x::l)[j]!):=by
   funext j
   simp [Function.comp,Go.Lib.keeps]
  rw [e1]
  simp [Go.Lib.keeps,Function.comp_def]
theorem values_comp (f:Int) (p:T):Srt.comp (Srt.sort (vals f p))=values f p:=comp_once _
end Pd
theorem ku (F:Heap) (x:Pd.At) (p:Pd.T) (u:Value) (hs:Pd.size p≤4611686018427387904) (hu:Pd.Row F u p.l) :
  Qz Tryz.prog 66 [.agg (Pd.cs p u),.int .i64 x.sw,.int .i64 x.port,.agg x.pk] [hpB F] fun r m=>r = .bool (Pd.hits x p)∧m=[hpB F]:=by
 refine Qz.fits (K:=fun r m=>r = .bool (Pd.hits x p)∧Qw m [hpB F]) ?_ fun r m' h=>⟨r,_,rfl,h.2,h.1,rfl⟩
 have c:=gM _ F x p u (Nat.le_refl _) hs hu
 generalize Pd.hits x p=hb at *
 have hok:=hu.ok
 clear hs hu
 obtain ⟨k,f,v,l⟩:=p
 obtain ⟨sw,port,p0,p1,p2,p3⟩:=x
 simp only [Pd.At.av,Pd.At.pk,pd_cs,Pd.T.l] at *
 refine aB Tryz.func66 rfl (by decide) ?_
 repeat' first|(intro K hK;(with_reducible refine gC ?_);refine cS [0] c ?_)|(refine sxZ ?_;try clear hK K)|refine sxW ?_ ?_<;>intro _|(intro K hK _;conv=>whnf)
 all_goals exact ⟨rfl,Qw.pre 1 rfl⟩
theorem ff (f:Int) (hf : -9223372036854775808≤f∧f≤9223372036854775807) (t:TypeId) (ht:t=3):∀ (n:Nat) (F:Heap) (p:Pd.T) (u:Value) (out:List Int) (w:Value),Pd.size p≤n→out.length+Pd.size p≤2932031007402→Pd.Row F u p.l →
  Qz Tryz.prog 189 [.sl 1 w out.length,.agg (Pd.cs p u),.int .i64 f] [hpB F,⟨addrOf w,Srt.av out,.row w t 1 out.length⟩] fun r m=>∃ w',r = .sl 1 w' (out++Pd.vals f p).length∧m=[hpB F,⟨addrOf w',Srt.av (out++Pd.vals f p),.row w' t 1 (out++Pd.vals f p).length⟩]
 | 0,F,p,u,out,w,hn,_,_=>absurd (Pd.size_pos p) (by omega)
 | n+1,F,⟨k,a,v,l⟩,u,out,w,hn,hs,hu=>by
  subst ht
  refine Qz.fits (K:=fun r m=>∃ w',r = .sl 1 w' (out++Pd.vals f (.mk k a v l)).length∧Qw m [hpB F,⟨addrOf w',Srt.av (out++Pd.vals f (.mk k a v l)),.row w' 3 1 (out++Pd.vals f (.mk k a v l)).length⟩]) ?_ fun r m' ⟨w',h1,h2⟩=>⟨r,_,rfl,h2,w',h1,rfl⟩
  have hu:Pd.Row F u l:=hu
  have hok:=hu.ok
  have e2:Pd.size (.mk k a v l)=1+Pd.sizeL l:=by rw [Pd.size]
  have hll:=Pd.length_le l
  have ih:∀ x∈l,∀ A,Pd.Row F A x.l→∀ (o:List Int) (w:Value),o.length+Pd.size x≤2932031007402→Qz Tryz.prog 189 [.sl 1 w o.length,.agg (Pd.cs x A),.int .i64 f] [hpB F,⟨addrOf w,Srt.av o,.row w 3 1 o.length⟩]
    fun r m=>∃ w',r = .sl 1 w' (o++Pd.vals f x).length∧m=[hpB F,⟨addrOf w',Srt.av (o++Pd.vals f x),.row w' 3 1 (o++Pd.vals f x).length⟩] :=
   fun x hx A hA o w ho=>ff f hf 3 rfl n F x A o w (by have:=Pd.size_lt (k:=k) (f:=a) (v:=v) hx;omega) ho hA
  generalize ho1:out++(if k=3∧a=f then [v] else [])=o1
  have hol:o1.length≤out.length+1:=by rw [← ho1,List.length_append];split<;>simp
  have hav:=Srt.av_len out
  have key:∀ (i:Nat) (w:Value),i≤l.length→(o1++Pd.valsL f (l.take i)).length≤out.length+1+Pd.sizeL (l.take i):=fun i w hi=>by
   have:=Pd.valsL_len f (l.take i)
   rw [List.length_append]
   omega
  have hfin:out++Pd.vals f (.mk k a v l)=o1++Pd.valsL f l:=by rw [Pd.vals,← List.append_assoc,ho1]
  rw [hfin]
  refine aB Tryz.func189 rfl (by decide) ?_
  rw [pd_cs]
  by_cases hka:k=3∧a=f
  ·rw [if_pos hka] at ho1
   obtain ⟨rfl,rfl⟩:=hka
   have hav1:=Srt.av_append out [v]
   rw [ho1] at hav1
   have hol1:o1.length=out.length+1:=by rw [← ho1,List.length_append];rfl
   generalize Srt.av out=ao at *
   repeat' first|(refine sxZ ?_;try clear hK K)|refine sxW ?_ ?_<;>intro _|(intro K hK _;conv=>whnf)
   rename_i w2
   have e0:o1++Pd.valsL a (l.take 0)=o1:=by simp [Pd.valsL]
   refine aE (α:=Value × Nat) (fun (w,i)=>i≤l.length) (fun (w,i)=>[.set (.sl 1 w (o1++Pd.valsL a (l.take i)).length),.k,.k,.k,.k,.k,.k,.k,.d,.k,.k,.k,.k,.k,.k,.k,.k,.k,.k,.k,.k,.k,.k,.k,.k,.k,.set (.int .i64 i),.d,.d,.d,.d,.d,.d,.d,.d,.k]) (fun (w,i)=>[.k,.set ⟨addrOf w,Srt.av (o1++Pd.valsL a (l.take i)),.row w 3 1 (o1++Pd.valsL a (l.take i)).length⟩]) (fun (w,i)=>l.length - i) (w2,0) (Nat.zero_le _) ?_ ?_ ?_
   ·dsimp only
    rw [e0]
    rw [hol1]
    exact aD
   ·dsimp only
    rw [e0]
    exact Qw.congr (by simp only [autoM,hav1,hol1];rfl)
   (intro ⟨w,i⟩ hi;intro K hK;(conv=>whnf);refine hK _ _ ?_;clear hK K)
   dsimp only
   by_cases hlt:i<l.length
   ·have hx:l[i]?=some l[i]:=List.getElem?_eq_getElem hlt
    obtain ⟨A,cap,hA,c0,c1,c2,c3⟩:=hu.get hx
    have hmem:=List.mem_of_getElem? hx
    have hkey:=key i w hi
    have hst:=Pd.sizeL_take hlt
    have hle2:=Pd.sizeL_le (l:=l) (k:=i+1)
    have hO:o1++Pd.valsL a (l.take (i+1))=o1++Pd.valsL a (l.take i)++Pd.vals a l[i]:=by rw [Pd.valsL_take _ hlt,List.append_assoc]
    have c:=ih _ hmem _ hA (o1++Pd.valsL a (l.take i)) w (by omega)
    rw [← hO] at c
    clear ih key
    generalize l[i]=x at *
    obtain ⟨xk,xf,xv,xl⟩:=x
    simp only [Pd.cs,Pd.T.k,Pd.T.f,Pd.T.v,Pd.T.l] at c c0 c1 c2 c3 hA
    generalize o1++Pd.valsL a (l.take i)=O at *
    generalize hO2:o1++Pd.valsL a (l.take (i+1))=O2 at *
    repeat' first|(intro K hK;(with_reducible refine gC ?_);(refine cN [0,1] c ?_;rintro _ _ ⟨w',rfl,rfl⟩;refine cR ?_))|(refine sxZ ?_;try clear hK K)|refine sxW ?_ ?_<;>intro _|(intro K hK _;conv=>whnf)
    refine aC (w',i+1) hlt (by show l.length - (i+1)<l.length - i;omega) ?_ (Qw.pre 4 ?_)
    ·dsimp only
     rw [hO2]
     exact aD
    ·simp only [autoM,List.take,hO2]
     try rfl
   ·have hkl:i=l.length:=by omega
    subst hkl
    rw [List.take_length]
    repeat' first|(refine sxZ ?_;try clear hK K)|refine sxW ?_ ?_<;>intro _|(intro K hK _;conv=>whnf)
    all_goals exact ⟨w,rfl,Qw.pre 2 rfl⟩
  ·rw [if_neg hka,List.append_nil] at ho1
   subst o1
   by_cases hk3:k=3
   ·have haf:a≠f:=fun e=>hka ⟨hk3,e⟩
    repeat' first|(refine sxZ ?_;try clear hK K)|refine sxW ?_ ?_<;>intro _|(intro K hK _;conv=>whnf)
    have e0:out++Pd.valsL f (l.take 0)=out:=by simp [Pd.valsL]
    refine aE (α:=Value × Nat) (fun (w,i)=>i≤l.length) (fun (w,i)=>[.set (.sl 1 w (out++Pd.valsL f (l.take i)).length),.k,.k,.k,.k,.k,.k,.k,.d,.k,.k,.k,.k,.k,.k,.k,.k,.k,.k,.k,.k,.k,.k,.k,.k,.k,.set (.int .i64 i),.d,.d,.d,.d,.d,.d,.d,.d,.k]) (fun (w,i)=>[.k,.set ⟨addrOf w,Srt.av (out++Pd.valsL f (l.take i)),.row w 3 1 (out++Pd.valsL f (l.take i)).length⟩]) (fun (w,i)=>l.length - i) (w,0) (Nat.zero_le _) ?_ ?_ ?_
    ·dsimp only
     rw [e0]
     exact aD
    ·dsimp only
     rw [e0]
     exact Qw.eq rfl
    (intro ⟨w,i⟩ hi;intro K hK;(conv=>whnf);refine hK _ _ ?_;clear hK K)
    dsimp only
    by_cases hlt:i<l.length
    ·have hx:l[i]?=some l[i]:=List.getElem?_eq_getElem hlt
     obtain ⟨A,cap,hA,c0,c1,c2,c3⟩:=hu.get hx
     have hmem:=List.mem_of_getElem? hx
     have hkey:=key i w hi
     have hst:=Pd.sizeL_take hlt
     have hle2:=Pd.sizeL_le (l:=l) (k:=i+1)
     have hO:out++Pd.valsL f (l.take (i+1))=out++Pd.valsL f (l.take i)++Pd.vals f l[i]:=by rw [Pd.valsL_take _ hlt,List.append_assoc]
     have c:=ih _ hmem _ hA (out++Pd.valsL f (l.take i)) w (by omega)
     rw [← hO] at c
     clear ih key
     generalize l[i]=x at *
     obtain ⟨xk,xf,xv,xl⟩:=x
     simp only [Pd.cs,Pd.T.k,Pd.T.f,Pd.T.v,Pd.T.l] at c c0 c1 c2 c3 hA
     generalize out++Pd.valsL f (l.take i)=O at *
     generalize hO2:out++Pd.valsL f (l.take (i+1))=O2 at *
     repeat' first|(intro K hK;(with_reducible refine gC ?_);(refine cN [0,1] c ?_;rintro _ _ ⟨w',rfl,rfl⟩;refine cR ?_))|(refine sxZ ?_;try clear hK K)|refine sxW ?_ ?_<;>intro _|(intro K hK _;conv=>whnf)
     refine aC (w',i+1) hlt (by show l.length - (i+1)<l.length - i;omega) ?_ (Qw.pre 3 ?_)
     ·dsimp only
      rw [hO2]
      exact aD
     ·simp only [autoM,List.take,hO2]
      try rfl
    ·have hkl:i=l.length:=by omega
     subst hkl
     rw [List.take_length]
     repeat' first|(refine sxZ ?_;try clear hK K)|refine sxW ?_ ?_<;>intro _|(intro K hK _;conv=>whnf)
     all_goals exact ⟨w,rfl,Qw.pre 2 rfl⟩
   ·repeat' first|(refine sxZ ?_;try clear hK K)|refine sxW ?_ ?_<;>intro _|(intro K hK _;conv=>whnf)
    have e0:out++Pd.valsL f (l.take 0)=out:=by simp [Pd.valsL]
    refine aE (α:=Value × Nat) (fun (w,i)=>i≤l.length) (fun (w,i)=>[.set (.sl 1 w (out++Pd.valsL f (l.take i)).length),.k,.k,.k,.k,.k,.k,.k,.d,.k,.k,.k,.k,.k,.k,.k,.k,.k,.k,.k,.k,.k,.k,.k,.k,.k,.set (.int .i64 i),.d,.d,.d,.d,.d,.d,.d,.d,.k]) (fun (w,i)=>[.k,.set ⟨addrOf w,Srt.av (out++Pd.valsL f (l.take i)),.row w 3 1 (out++Pd.valsL f (l.take i)).length⟩]) (fun (w,i)=>l.length - i) (w,0) (Nat.zero_le _) ?_ ?_ ?_
    ·dsimp only
     rw [e0]
     exact aD
    ·dsimp only
     rw [e0]
     exact Qw.eq rfl
    (intro ⟨w,i⟩ hi;intro K hK;(conv=>whnf);refine hK _ _ ?_;clear hK K)
    dsimp only
    by_cases hlt:i<l.length
    ·have hx:l[i]?=some l[i]:=List.getElem?_eq_getElem hlt
     obtain ⟨A,cap,hA,c0,c1,c2,c3⟩:=hu.get hx
     have hmem:=List.mem_of_getElem? hx
     have hkey:=key i w hi
     have hst:=Pd.sizeL_take hlt
     have hle2:=Pd.sizeL_le (l:=l) (k:=i+1)
     have hO:out++Pd.valsL f (l.take (i+1))=out++Pd.valsL f (l.take i)++Pd.vals f l[i]:=by rw [Pd.valsL_take _ hlt,List.append_assoc]
     have c:=ih _ hmem _ hA (out++Pd.valsL f (l.take i)) w (by omega)
     rw [← hO] at c
     clear ih key
     generalize l[i]=x at *
     obtain ⟨xk,xf,xv,xl⟩:=x
     simp only [Pd.cs,Pd.T.k,Pd.T.f,Pd.T.v,Pd.T.l] at c c0 c1 c2 c3 hA
     generalize out++Pd.valsL f (l.take i)=O at *
     generalize hO2:out++Pd.valsL f (l.take (i+1))=O2 at *
     repeat' first|(intro K hK;(with_reducible refine gC ?_);(refine cN [0,1] c ?_;rintro _ _ ⟨w',rfl,rfl⟩;refine cR ?_))|(refine sxZ ?_;try clear hK K)|refine sxW ?_ ?_<;>intro _|(intro K hK _;conv=>whnf)
     refine aC (w',i+1) hlt (by show l.length - (i+1)<l.length - i;omega) ?_ (Qw.pre 3 ?_)
     ·dsimp only
      rw [hO2]
      exact aD
     ·simp only [autoM,List.take,hO2]
      try rfl
    ·have hkl:i=l.length:=by omega
     subst hkl
     rw [List.take_length]
     repeat' first|(refine sxZ ?_;try clear hK K)|refine sxW ?_ ?_<;>intro _|(intro K hK _;conv=>whnf)
     all_goals exact ⟨w,rfl,Qw.pre 2 rfl⟩
abbrev Srt.Lays (F:Heap) (l:List Int) (r:AV) (m:List Blk):Prop:=∃ F' v,F.le F'∧Srt.Row F' v l∧r = .hs v l.length∧m=[hpB F']
theorem l4 (F:Heap) (p:Pd.T) (u:Value) (f:Int) (hf : -9223372036854775808≤f∧f≤9223372036854775807) (hs:Pd.size p≤2932031007402) (hu:Pd.Row F u p.l) :
  Qz Tryz.prog 147 [.agg (Pd.cs p u),.int .i64 f] [hpB F] fun r m=>Srt.Lays F (Pd.values f p) r m:=by
 have hln:=Pd.vals_len f p
 have c1:=ff f hf 3 rfl _ F p u [] (.slice none 0 0) (Nat.le_refl _) (by simpa using hs) hu
 have c0:Qz Tryz.prog 189 [.raw (.slice none 0 0),.agg (Pd.cs p u),.int .i64 f] [hpB F] _:=Qz.rowPre c1 rfl
 rw [List.nil_append] at c0
 clear c1
 have hv:=Pd.values_comp f p
 have hsl:=Srt.sort_len (Pd.vals f p)
 refine Go.Sx.Qz.know (K:=fun r m=>∃ v,r = .raw (Srt.cutTo v (Pd.values f p).length)∧Qw m [hpB F,⟨addrOf v,Srt.av (Srt.comped (Srt.sort (Pd.vals f p))),.row v 3 1 (Pd.vals f p).length⟩]) ?_ fun r m' ⟨v,hr,hm⟩ ⟨w,hw⟩=>?_
 ·rw [← hv]
  have c2:=fun v=>oK v 3 (Pd.vals f p) (by omega)
  have c3:=fun v=>iS v 3 (Srt.sort (Pd.vals f p)) (by omega)
  rw [hsl] at c3
  generalize Srt.comped (Srt.sort (Pd.vals f p))=D2 at *
  generalize (Srt.comp (Srt.sort (Pd.vals f p))).length=n2 at *
  generalize Srt.av (Srt.sort (Pd.vals f p))=D1 at *
  generalize Srt.av (Pd.vals f p)=D0 at *
  generalize (Pd.vals f p).length=n0 at *
  have hok:=hu.ok
  clear hv hsl
  obtain ⟨k,a,v,l⟩:=p
  simp only [pd_cs,Pd.T.l] at *
  refine aB Tryz.func147 rfl (by decide) ?_
  repeat' first|(intro K hK;(with_reducible refine gC ?_);first|(refine cN [0] c0 ?_;rintro _ _ ⟨w',rfl,rfl⟩;refine ⟨rfl,.sl 2 w' n0,rfl,?_⟩;conv=>whnf)|refine cS [2] (c2 _) ?_|refine cS [2] (c3 _) ?_)|(refine sxZ ?_;try clear hK K)|refine sxW ?_ ?_<;>intro _|(intro K hK _;conv=>whnf)
  all_goals exact ⟨_,rfl,Qw.pick [0,2] (by decide) rfl⟩
 ·have hok:=((hm w hw).1.row (List.mem_cons_of_mem _ (List.mem_cons_self ..))).1
  rw [← hsl,← Srt.comped_len] at hok
  have hrow:=aM (F:=F) (sz:=1) (enc:=Srt.V) hok (Srt.av_flat _) (fun x _=>rfl)
  obtain ⟨h1,h2⟩:=Srt.row_cut hrow
  rw [hv] at h1 h2
  exact ⟨_,_,by rw [hr];exact h2.symm,hm.trans (Qw.freeze (m:=[])),_,_,addF.old,h1,rfl,rfl⟩
theorem kr (F:Heap) (f w:Int) (hf : -9223372036854775808≤f∧f≤9223372036854775807):∀ (n:Nat) (p:Pd.T) (u:Value),Pd.size p≤n→Pd.size p≤4611686018427387904→Pd.Row F u p.l →
  Qz Tryz.prog 86 [.agg (Pd.cs p u),.int .i64 f,.int .i64 w] [hpB F] fun r m=>r = .bool (decide (w∈Pd.vals f p))∧m=[hpB F]
 | 0,p,u,hn,_,_=>absurd (Pd.size_pos p) (by omega)
 | n+1,⟨k,a,v,l⟩,u,hn,hs,hu=>by
  refine Qz.fits (K:=fun r m=>r = .bool (decide (w∈Pd.vals f (.mk k a v l)))∧Qw m [hpB F]) ?_ fun r m' h=>⟨r,_,rfl,h.2,h.1,rfl⟩
  have hu:Pd.Row F u l:=hu
  have hok:=hu.ok
  have e2:Pd.size (.mk k a v l)=1+Pd.sizeL l:=by rw [Pd.size]
  have hll:=Pd.length_le l
  have ih:∀ x∈l,∀ A,Pd.Row F A x.l→Qz Tryz.prog 86 [.agg (Pd.cs x A),.int .i64 f,.int .i64 w] [hpB F] fun r m=>r = .bool (decide (w∈Pd.vals f x))∧m=[hpB F] :=
   fun x hx A hA=>kr F f w hf n x A (by have:=Pd.size_lt (k:=k) (f:=a) (v:=v) hx;omega) (by have:=Pd.size_lt (k:=k) (f:=a) (v:=v) hx;omega) hA
  refine aB Tryz.func86 rfl (by decide) ?_
  rw [pd_cs,Pd.vals]
  by_cases h1:k=3∧a=f∧v=w
  ·obtain ⟨rfl,rfl,rfl⟩:=h1
   repeat' first|((first|intro A B hA hB|intro K hK|skip);first|((with_reducible refine NIf.yes ?s ?_);(case s=>simp ;done);conv=>whnf)|((with_reducible refine NIf.no ?s ?_);(case s=>simp ;done);conv=>whnf))|(refine sxZ ?_;(try clear hK K);try clear hA hB A B)|refine sxW ?_ ?_<;>intro _|(intro K hK _;conv=>whnf)
   all_goals exact ⟨by simp,Qw.pre 1 rfl⟩
  ·have e:decide (w∈(if k=3∧a=f then [v] else [])++Pd.valsL f l)=decide (w∈Pd.valsL f l):=by
    congr 1
    rw [List.mem_append]
    refine propext ⟨fun h=>h.resolve_left fun h=>?_,.inr⟩
    split at h
    ·rename_i hk
     exact h1 ⟨hk.1,hk.2,(List.mem_singleton.1 h).symm⟩
    ·simp at h
   rw [e]
   by_cases hk:k=3
   ·by_cases ha:a=f
    ·have hv:v≠w:=fun e=>h1 ⟨hk,ha,e⟩
     subst ha hk
     repeat' first|((first|intro A B hA hB|intro K hK|skip);first|((with_reducible refine NIf.yes ?s ?_);(case s=>simp [hv];done);conv=>whnf)|((with_reducible refine NIf.no ?s ?_);(case s=>simp [hv];done);conv=>whnf))|(refine sxZ ?_;(try clear hK K);try clear hA hB A B)|refine sxW ?_ ?_<;>intro _|(intro K hK _;conv=>whnf)
     refine aE (α:=Nat) (fun i=>i≤l.length∧¬ w∈Pd.valsL a (l.take i)) (fun i=>[.k,.k,.k,.k,.k,.k,.set (.bool false),.set (.int .i64 i),.k,.k,.k,.k,.k,.k,.k,.k,.k,.k,.k,.k,.k,.k,.k,.d,.d,.d,.d,.d,.d,.d,.d,.d,.d,.d,.d,.d,.d,.d]) (fun _=>[]) (fun i=>l.length - i) 0 ⟨Nat.zero_le _,by simp [Pd.valsL]⟩ ?_ (Qw.eq rfl) ?_
     ·exact aD
     (intro i ⟨hi,hno⟩;intro K hK;(conv=>whnf);refine hK _ _ ?_;clear hK K)
     by_cases hlt:i<l.length
     ·have hx:l[i]?=some l[i]:=List.getElem?_eq_getElem hlt
      obtain ⟨A,cap,hA,c0,c1,c2,c3⟩:=hu.get hx
      have hmem:=List.mem_of_getElem? hx
      have c:=ih _ hmem _ hA
      have hnx:=Pd.valsL_take a hlt
      have hyes:w∈Pd.vals a l[i]→w∈Pd.valsL a l:=fun hw=>by
       have e:=Pd.valsL_append a (l.take (i+1)) (l.drop (i+1))
       rw [List.take_append_drop,hnx] at e
       rw [e]
       exact List.mem_append_left _ (List.mem_append_right _ hw)
      have hnext:¬ w∈Pd.vals a l[i]→¬ w∈Pd.valsL a (l.take (i+1)):=fun h1 h2=>by
       rw [hnx] at h2
       rcases List.mem_append.1 h2 with h2 | h2
       ·exact hno h2
       ·exact h1 h2
      clear ih e hnx
      generalize l[i]=x at *
      by_cases hw:w∈Pd.vals a x
      ·rw [decide_eq_true hw] at c
       have hy:=hyes hw
       clear hyes hnext hw
       obtain ⟨xk,xf,xv,xl⟩:=x
       simp only [Pd.cs,Pd.T.k,Pd.T.f,Pd.T.v,Pd.T.l] at c c0 c1 c2 c3 hA
       repeat' first|(intro K hK;(with_reducible refine gC ?_);refine cS [0] c ?_)|(refine sxZ ?_;try clear hK K)|refine sxW ?_ ?_<;>intro _|(intro K hK _;conv=>whnf)
       all_goals exact ⟨by rw [decide_eq_true hy],Qw.pre 1 rfl⟩
      ·rw [decide_eq_false hw] at c
       have hy:=hnext hw
       clear hyes hnext hw
       obtain ⟨xk,xf,xv,xl⟩:=x
       simp only [Pd.cs,Pd.T.k,Pd.T.f,Pd.T.v,Pd.T.l] at c c0 c1 c2 c3 hA
       repeat' first|(intro K hK;(with_reducible refine gC ?_);refine cS [0] c ?_)|(refine sxZ ?_;try clear hK K)|refine sxW ?_ ?_<;>intro _|(intro K hK _;conv=>whnf)
       refine aC (i+1) ⟨hlt,hy⟩ (by omega) ?_ (Qw.eq rfl)
       exact aD
     ·have hkl:i=l.length:=by omega
      subst hkl
      rw [List.take_length] at hno
      repeat' first|(refine sxZ ?_;try clear hK K)|refine sxW ?_ ?_<;>intro _|(intro K hK _;conv=>whnf)
      all_goals exact ⟨by rw [decide_eq_false hno],Qw.pre 1 rfl⟩
    ·repeat' first|(refine sxZ ?_;try clear hK K)|refine sxW ?_ ?_<;>intro _|(intro K hK _;conv=>whnf)
     refine aE (α:=Nat) (fun i=>i≤l.length∧¬ w∈Pd.valsL f (l.take i)) (fun i=>[.k,.k,.k,.k,.k,.k,.set (.bool false),.set (.int .i64 i),.k,.k,.k,.k,.k,.k,.k,.k,.k,.k,.k,.k,.k,.k,.k,.d,.d,.d,.d,.d,.d,.d,.d,.d,.d,.d,.d,.d,.d,.d]) (fun _=>[]) (fun i=>l.length - i) 0 ⟨Nat.zero_le _,by simp [Pd.valsL]⟩ ?_ (Qw.eq rfl) ?_
     ·exact aD
     (intro i ⟨hi,hno⟩;intro K hK;(conv=>whnf);refine hK _ _ ?_;clear hK K)
     by_cases hlt:i<l.length
     ·have hx:l[i]?=some l[i]:=List.getElem?_eq_getElem hlt
      obtain ⟨A,cap,hA,c0,c1,c2,c3⟩:=hu.get hx
      have hmem:=List.mem_of_getElem? hx
      have c:=ih _ hmem _ hA
      have hnx:=Pd.valsL_take f hlt
      have hyes:w∈Pd.vals f l[i]→w∈Pd.valsL f l:=fun hw=>by
       have e:=Pd.valsL_append f (l.take (i+1)) (l.drop (i+1))
       rw [List.take_append_drop,hnx] at e
       rw [e]
       exact List.mem_append_left _ (List.mem_append_right _ hw)
      have hnext:¬ w∈Pd.vals f l[i]→¬ w∈Pd.valsL f (l.take (i+1)):=fun h1 h2=>by
       rw [hnx] at h2
       rcases List.mem_append.1 h2 with h2 | h2
       ·exact hno h2
       ·exact h1 h2
      clear ih e hnx
      generalize l[i]=x at *
      by_cases hw:w∈Pd.vals f x
      ·rw [decide_eq_true hw] at c
       have hy:=hyes hw
       clear hyes hnext hw
       obtain ⟨xk,xf,xv,xl⟩:=x
       simp only [Pd.cs,Pd.T.k,Pd.T.f,Pd.T.v,Pd.T.l] at c c0 c1 c2 c3 hA
       repeat' first|(intro K hK;(with_reducible refine gC ?_);refine cS [0] c ?_)|(refine sxZ ?_;try clear hK K)|refine sxW ?_ ?_<;>intro _|(intro K hK _;conv=>whnf)
       all_goals exact ⟨by rw [decide_eq_true hy],Qw.pre 1 rfl⟩
      ·rw [decide_eq_false hw] at c
       have hy:=hnext hw
       clear hyes hnext hw
       obtain ⟨xk,xf,xv,xl⟩:=x
       simp only [Pd.cs,Pd.T.k,Pd.T.f,Pd.T.v,Pd.T.l] at c c0 c1 c2 c3 hA
       repeat' first|(intro K hK;(with_reducible refine gC ?_);refine cS [0] c ?_)|(refine sxZ ?_;try clear hK K)|refine sxW ?_ ?_<;>intro _|(intro K hK _;conv=>whnf)
       refine aC (i+1) ⟨hlt,hy⟩ (by omega) ?_ (Qw.eq rfl)
       exact aD
     ·have hkl:i=l.length:=by omega
      subst hkl
      rw [List.take_length] at hno
      repeat' first|(refine sxZ ?_;try clear hK K)|refine sxW ?_ ?_<;>intro _|(intro K hK _;conv=>whnf)
      all_goals exact ⟨by rw [decide_eq_false hno],Qw.pre 1 rfl⟩
   ·repeat' first|(refine sxZ ?_;try clear hK K)|refine sxW ?_ ?_<;>intro _|(intro K hK _;conv=>whnf)
    refine aE (α:=Nat) (fun i=>i≤l.length∧¬ w∈Pd.valsL f (l.take i)) (fun i=>[.k,.k,.k,.k,.k,.k,.set (.bool false),.set (.int .i64 i),.k,.k,.k,.k,.k,.k,.k,.k,.k,.k,.k,.k,.k,.k,.k,.d,.d,.d,.d,.d,.d,.d,.d,.d,.d,.d,.d,.d,.d,.d]) (fun _=>[]) (fun i=>l.length - i) 0 ⟨Nat.zero_le _,by simp [Pd.valsL]⟩ ?_ (Qw.eq rfl) ?_
    ·exact aD
    (intro i ⟨hi,hno⟩;intro K hK;(conv=>whnf);refine hK _ _ ?_;clear hK K)
    by_cases hlt:i<l.length
    ·have hx:l[i]?=some l[i]:=List.getElem?_eq_getElem hlt
     obtain ⟨A,cap,hA,c0,c1,c2,c3⟩:=hu.get hx
     have hmem:=List.mem_of_getElem? hx
     have c:=ih _ hmem _ hA
     have hnx:=Pd.valsL_take f hlt
     have hyes:w∈Pd.vals f l[i]→w∈Pd.valsL f l:=fun hw=>by
      have e:=Pd.valsL_append f (l.take (i+1)) (l.drop (i+1))
      rw [List.take_append_drop,hnx] at e
      rw [e]
      exact List.mem_append_left _ (List.mem_append_right _ hw)
     have hnext:¬ w∈Pd.vals f l[i]→¬ w∈Pd.valsL f (l.take (i+1)):=fun h1 h2=>by
      rw [hnx] at h2
      rcases List.mem_append.1 h2 with h2 | h2
      ·exact hno h2
      ·exact h1 h2
     clear ih e hnx
     generalize l[i]=x at *
     by_cases hw:w∈Pd.vals f x
     ·rw [decide_eq_true hw] at c
      have hy:=hyes hw
      clear hyes hnext hw
      obtain ⟨xk,xf,xv,xl⟩:=x
      simp only [Pd.cs,Pd.T.k,Pd.T.f,Pd.T.v,Pd.T.l] at c c0 c1 c2 c3 hA
      repeat' first|(intro K hK;(with_reducible refine gC ?_);refine cS [0] c ?_)|(refine sxZ ?_;try clear hK K)|refine sxW ?_ ?_<;>intro _|(intro K hK _;conv=>whnf)
      all_goals exact ⟨by rw [decide_eq_true hy],Qw.pre 1 rfl⟩
     ·rw [decide_eq_false hw] at c
      have hy:=hnext hw
      clear hyes hnext hw
      obtain ⟨xk,xf,xv,xl⟩:=x
      simp only [Pd.cs,Pd.T.k,Pd.T.f,Pd.T.v,Pd.T.l] at c c0 c1 c2 c3 hA
      repeat' first|(intro K hK;(with_reducible refine gC ?_);refine cS [0] c ?_)|(refine sxZ ?_;try clear hK K)|refine sxW ?_ ?_<;>intro _|(intro K hK _;conv=>whnf)
      refine aC (i+1) ⟨hlt,hy⟩ (by omega) ?_ (Qw.eq rfl)
      exact aD
    ·have hkl:i=l.length:=by omega
     subst hkl
     rw [List.take_length] at hno
     repeat' first|(refine sxZ ?_;try clear hK K)|refine sxW ?_ ?_<;>intro _|(intro K hK _;conv=>whnf)
     all_goals exact ⟨by rw [decide_eq_false hno],Qw.pre 1 rfl⟩
theorem Srt.know {f:FuncId} {args:List AV} {F:Heap} {t:TypeId} {m:List Blk} {l:List Int} (h:Qz Tryz.prog f args m fun r m'=>∃ v,r.den=aw v∧Qw m' [hpB F,⟨addrOf v,Srt.av l,.row v t 1 l.length⟩]) :
  Qz Tryz.prog f args m fun r m'=>Srt.Lays F l r m':=by
 refine Go.Sx.Qz.know h fun r m' ⟨v,hr,hm⟩ ⟨w,hw⟩=>?_
 have hok:=((hm w hw).1.row (List.mem_cons_of_mem _ (List.mem_cons_self ..))).1
 have hrow:=aM (F:=F) (sz:=1) (enc:=Srt.V) hok (Srt.av_flat _) (fun x _=>rfl)
 exact ⟨.hs v l.length,_,hr.symm,hm.trans (Qw.freeze (m:=[])),_,v,addF.old,hrow,rfl,rfl⟩
end Go.Proofs.YtmehinfgdcmmjaaGreatDoor
