import Derived.Test.YtmehinfgdcmmjaaGreatJ10
import Derived.Test.YtmehinfgdcmmjaaGreatJ9
import Derived.Test.YtmehinfgdcmmjaaGreatSxC
import Derived.Maps.RangeRun
import Derived.Test.YtmehinfgdcmmjaaGreatJ2
namespace Go.Proofs.YtmehinfgdcmmjaaGreat
open Go.Sx
set_option maxRecDepth 20000
set_option linter.unusedSimpArgs false
set_option linter.unusedVariables false
set_option maxHeartbeats 4000000
namespace Pd
def At.av (x:At):List AV:=[.int .i64 x.sw,.int .i64 x.port,.int .i64 x.p0,.int .i64 x.p1,.int .i64 x.p2,.int .i64 x.p3]
def At.pk (x:At):List AV:=[.int .i64 x.p0,.int .i64 x.p1,.int .i64 x.p2,.int .i64 x.p3]
theorem any_not (x:At) (l:List T):(l.any fun p=>!hits x p)=!hitsAll x l:=by
 induction l with
 | nil=>rfl
 | cons p l ih=>rw [List.any_cons,ih,hitsAll];cases hits x p<;>simp
theorem any_hits (x:At) (l:List T):(l.any fun p=>hits x p)=!hitsNone x l:=by
 induction l with
 | nil=>rfl
 | cons p l ih=>rw [List.any_cons,ih,hitsNone];cases hits x p<;>simp
theorem hits_1 (x:At) (f v:Int) (l:List T):hits x (.mk 1 f v l)=true:=by rw [hits.eq_def];simp
theorem hits_3 (x:At) (f v:Int) (l:List T):hits x (.mk 3 f v l)=decide ((0≤f∧f≤5)∧get f x=v):=by rw [hits.eq_def];simp
theorem hits_4n (x:At) (f v:Int):hits x (.mk 4 f v [])=false:=by rw [hits.eq_def];simp
theorem hits_4 (x:At) (f v:Int) (q:T) (l:List T):hits x (.mk 4 f v (q::l))=!hits x q:=by rw [hits.eq_def];simp [hits1]
theorem hits_5 (x:At) (f v:Int) (l:List T):hits x (.mk 5 f v l)=hitsAll x l:=by rw [hits.eq_def];simp
theorem hits_6 (x:At) (f v:Int) (l:List T):hits x (.mk 6 f v l)=!hitsNone x l:=by rw [hits.eq_def];simp
theorem hits_no (x:At) (k f v:Int) (l:List T) (h:¬ (k=1∨k=3∨k=4∨k=5∨k=6)):hits x (.mk k f v l)=false:=by
 rw [hits.eq_def]
 simp only [not_or] at h
 simp [h.1,h.2.1,h.2.2.1,h.2.2.2.1,h.2.2.2.2]
def cnt (x:At) (l:List T):Nat:=(l.filter fun p=>hits x p).length
end Pd
def rz (F:Heap) (b:Addr) (x:Pd.At):Prop:=F.c (b.add 0) (.int .i64 x.sw)∧F.c (b.add 1) (.int .i64 x.port)∧F.c (b.add 2) (.int .i64 x.p0)∧F.c (b.add 3) (.int .i64 x.p1)∧F.c (b.add 4) (.int .i64 x.p2)∧F.c (b.add 5) (.int .i64 x.p3)
theorem gq:∀ (n:Nat) (F:Heap) (x:Pd.At) (p:Pd.T) (u:Value),Pd.size p≤n→Pd.size p≤4611686018427387904→Pd.Row F u p.l →
  NCall Tryz.prog 205 [.agg x.av,.agg (Pd.cs p u)] [hpB F] fun r m=>r = .bool (Pd.hits x p)∧m=[hpB F]
 | 0,F,x,p,u,hn,_,_=>absurd (Pd.size_pos p) (by omega)
 | n+1,F,x,⟨k,f,v,l⟩,u,hn,hs,hu=>by
  refine NCall.fits (K:=fun r m=>r = .bool (Pd.hits x (.mk k f v l))∧MemFits m [hpB F]) ?_ fun r m' h=>⟨r,_,rfl,h.2,h.1,rfl⟩
  have hu:Pd.Row F u l:=hu
  have hok:=hu.ok
  have hll:=Pd.length_le l
  have e2:Pd.size (.mk k f v l)=1+Pd.sizeL l:=by rw [Pd.size]
  have ih:∀ G y,y∈l→∀ A,Pd.Row G A y.l→NCall Tryz.prog 205 [.agg x.av,.agg (Pd.cs y A)] [hpB G] fun r m=>r = .bool (Pd.hits x y)∧m=[hpB G]:=fun G y hy A hA=>gq n G x y A (by have:=Pd.size_lt (k:=k) (f:=f) (v:=v) hy;omega) (by have:=Pd.size_lt (k:=k) (f:=f) (v:=v) hy;omega) hA
  have cor:=bz F (fun y=>Pd.hits x y) u l hu (by omega) 205 [.agg x.av] [] fun y hy A hA=>ih F y hy A hA
  rw [Pd.any_hits] at cor
  have cand:∀ b:Addr,NCall Tryz.prog 173 [.hs u l.length,.fn 211 [] [.ptr 1 b 0]] [hpB F,⟨b,x.av,.var 258⟩] fun r m=>r = .bool (!Pd.hitsAll x l)∧m=[hpB F,⟨b,x.av,.var 258⟩]:=fun b=>by
   have hle:F.le (addF F b (denL x.av)):=addF.old
   have hat:rz (addF F b (denL x.av)) b x:=by
    have:=addF.new (F:=F) (a:=b) (vs:=denL x.av)
    obtain ⟨c0,c1,c2,c3,c4,c5,_⟩:=this
    exact ⟨c0,c1,c2,c3,c4,c5⟩
   obtain ⟨c0,c1,c2,c3,c4,c5⟩:=hat
   have c:=bz (addF F b (denL x.av)) (fun y=>!Pd.hits x y) u l (Pd.Row.mono hle hu) (by omega) 211 [] [.hp b 0] fun y hy A hA=>by
    have cy:=ih _ y hy A hA
    generalize addF F b (denL x.av)=G at *
    refine NCall.fits (K:=fun r m=>r = .bool (!Pd.hits x y)∧MemFits m [hpB G]) ?_ fun r m' h=>⟨r,_,rfl,h.2,h.1,rfl⟩
    generalize Pd.hits x y=hb at *
    obtain ⟨yk,yf,yv,yl⟩:=y
    rw [ab] at *
    obtain ⟨sw,port,p0,p1,p2,p3⟩:=x
    simp only [Pd.At.av] at *
    refine aA Tryz.func211 rfl (by decide) ?_
    repeat' first|(intro K hK;(with_reducible refine gC ?_);refine cS [0] cy ?_)|(refine sxZ ?_;try clear hK K)|refine sxW ?_ ?_<;>intro _|(intro K hK _;conv=>whnf)
    all_goals exact ⟨rfl,MemFits.pre 1 rfl⟩
   rw [Pd.any_not] at c
   exact NCall.keep c rfl MemFits.freezeVar rfl fun r mL' h=>⟨r,rfl,h.1,rfl⟩
  have hget:=qe f x
  clear ih
  have ih0:∀ y,l[0]?=some y→∀ A,Pd.Row F A y.l→NCall Tryz.prog 205 [.agg x.av,.agg (Pd.cs y A)] [hpB F] fun r m=>r = .bool (Pd.hits x y)∧m=[hpB F]:=fun y hy A hA=>gq n F x y A (by have:=Pd.size_lt (k:=k) (f:=f) (v:=v) (List.mem_of_getElem? hy);omega) (by have:=Pd.size_lt (k:=k) (f:=f) (v:=v) (List.mem_of_getElem? hy);omega) hA
  refine aA Tryz.func205 rfl (by decide) ?_
  rw [ab]
  by_cases h1:k=1
  ·subst h1
   rw [Pd.hits_1]
   obtain ⟨sw,port,p0,p1,p2,p3⟩:=x
   simp only [Pd.At.av] at *
   repeat' first|(refine sxZ ?_;try clear hK K)|refine sxW ?_ ?_<;>intro _|(intro K hK _;conv=>whnf)
   all_goals exact ⟨rfl,MemFits.pre 1 rfl⟩
  by_cases h3:k=3
  ·subst h3
   rw [Pd.hits_3]
   clear cor cand ih0
   generalize hgv:Pd.get f x=gv at *
   obtain ⟨sw,port,p0,p1,p2,p3⟩:=x
   simp only [Pd.At.av] at *
   by_cases hr:0≤f∧f≤5
   ·by_cases hv:gv=v
    ·rw [decide_eq_true ⟨hr,hv⟩]
     subst hv
     repeat' first|((try intro K hK);(with_reducible refine gC ?_);refine cP hget ?_)|((first|intro A B hA hB|intro K hK|skip);first|((with_reducible refine NIf.yes ?s ?_);(case s=>simp ;done);conv=>whnf)|((with_reducible refine NIf.no ?s ?_);(case s=>simp ;done);conv=>whnf))|(refine aV [] ?_;(try clear hK K);try clear hA hB A B)|refine sxW ?_ ?_<;>intro _|refine aW ?_ ?_|(intro K hK _;conv=>whnf)
     all_goals exact ⟨by simp,MemFits.pre 1 rfl⟩
    ·rw [decide_eq_false (fun h=>hv h.2)]
     repeat' first|((try intro K hK);(with_reducible refine gC ?_);refine cP hget ?_)|((first|intro A B hA hB|intro K hK|skip);first|((with_reducible refine NIf.yes ?s ?_);(case s=>simp [hv];done);conv=>whnf)|((with_reducible refine NIf.no ?s ?_);(case s=>simp [hv];done);conv=>whnf))|(refine aV [] ?_;(try clear hK K);try clear hA hB A B)|refine sxW ?_ ?_<;>intro _|refine aW ?_ ?_|(intro K hK _;conv=>whnf)
     all_goals exact ⟨by simp [hv],MemFits.pre 1 rfl⟩
   ·rw [decide_eq_false (fun h=>hr h.1)]
    repeat' first|(intro K hK;(with_reducible refine gC ?_);refine cP hget ?_)|(refine aV [] ?_;try clear hK K)|refine sxW ?_ ?_<;>intro _|refine aW ?_ ?_|(intro K hK _;conv=>whnf)
    all_goals exact ⟨by simp,MemFits.pre 1 rfl⟩
  by_cases h4:k=4
  ·subst h4
   clear cor cand
   cases l with
   | nil =>
    rw [Pd.hits_4n]
    obtain ⟨sw,port,p0,p1,p2,p3⟩:=x
    simp only [Pd.At.av,List.length_nil] at *
    repeat' first|(refine aV [] ?_;try clear hK K)|refine sxW ?_ ?_<;>intro _|refine aW ?_ ?_|(intro K hK _;conv=>whnf)
    all_goals first
     | exact ⟨rfl,MemFits.pre 1 rfl⟩
     | (exfalso;omega)
   | cons q l =>
    rw [Pd.hits_4]
    obtain ⟨A,cap,hA,c0,c1,c2,c3⟩:=hu.get (i:=0) (x:=q) rfl
    have c:=ih0 q rfl _ hA
    clear ih0
    generalize Pd.hits x q=hb at *
    simp only [Pd.cs] at c
    generalize hln:(q::l).length=ln at *
    have hpos:0<ln:=by rw [← hln];simp
    obtain ⟨sw,port,p0,p1,p2,p3⟩:=x
    simp only [Pd.At.av] at *
    repeat' first|(intro K hK;(with_reducible refine gC ?_);refine cS [0] c ?_)|(refine aV [] ?_;try clear hK K)|refine sxW ?_ ?_<;>intro _|refine aW ?_ ?_|(intro K hK _;conv=>whnf)
    all_goals first
     | exact ⟨rfl,MemFits.pre 1 rfl⟩
     | (exfalso;omega)
  by_cases h5:k=5
  ·subst h5
   rw [Pd.hits_5]
   clear cor ih0
   generalize Pd.hitsAll x l=hb at *
   obtain ⟨sw,port,p0,p1,p2,p3⟩:=x
   simp only [Pd.At.av] at *
   repeat' first|(intro K hK;(with_reducible refine gC ?_);refine cS [0,1] (cand _) ?_)|(refine sxZ ?_;try clear hK K)|refine sxW ?_ ?_<;>intro _|(intro K hK _;conv=>whnf)
   all_goals exact ⟨by cases hb<;>rfl,MemFits.pre 1 rfl⟩
  by_cases h6:k=6
  ·subst h6
   rw [Pd.hits_6]
   clear cand ih0
   generalize Pd.hitsNone x l=hb at *
   obtain ⟨sw,port,p0,p1,p2,p3⟩:=x
   simp only [Pd.At.av] at *
   repeat' first|(intro K hK;(with_reducible refine gC ?_);refine cS [0] cor ?_)|(refine sxZ ?_;try clear hK K)|refine sxW ?_ ?_<;>intro _|(intro K hK _;conv=>whnf)
   all_goals exact ⟨rfl,MemFits.pre 1 rfl⟩
  rw [Pd.hits_no x k f v l (by omega)]
  clear cor cand ih0
  obtain ⟨sw,port,p0,p1,p2,p3⟩:=x
  simp only [Pd.At.av] at *
  repeat' first|(refine sxZ ?_;try clear hK K)|refine sxW ?_ ?_<;>intro _|(intro K hK _;conv=>whnf)
  all_goals first
   | exact ⟨rfl,MemFits.pre 1 rfl⟩
   | (exfalso;omega)
end Go.Proofs.YtmehinfgdcmmjaaGreat
namespace Go.Sx
theorem NCall.rowPre {P:Program} {f:FuncId} {args args':List AV} {F:Heap} {t:TypeId} {K:AV→List Blk→Prop} (h:NCall P f args' [hpB F,⟨⟨0,0,none⟩,[],.row (.slice none 0 0) t 1 0⟩] K) (hargs:denL args'=denL args):NCall P f args [hpB F] K :=
 NCall.pre h hargs (MemFits.nilRow [hpB F] t 1)
end Go.Sx
namespace Go.Proofs.YtmehinfgdcmmjaaGreat
open Go.Sx
set_option maxRecDepth 20000
set_option linter.unusedSimpArgs false
set_option linter.unusedVariables false
set_option maxHeartbeats 4000000
namespace Pd
def oncer (p:Int):List Int→List Int
 | []=>[]
 | y::l=>(if y≠p then [y] else [])++oncer y l
theorem once_cons:∀ (l:List Int) (x:Int),once (x::l)=x::oncer x l
 | [],x=>rfl
 | y::l,x=>by
  rw [once,once_cons l y,oncer]
  split
  ·rename_i h;subst h;simp
  ·rename_i h;rw [if_pos (fun e=>h e.symm)];rfl
theorem oncer_eq:∀ (l:List Int) (p:Int),((List.range l.length).filter fun j=>decide ((p::l)[j+1]!≠(p::l)[j]!)).map (fun j=>(p::l)[j+1]!)=oncer p l
 | [],p=>rfl
 | y::l,p=>by
  have ih:=oncer_eq l y
  rw [List.length_cons,List.range_succ_eq_map,List.filter_cons,List.filter_map,oncer,← ih]
  have e1:((fun j=>decide ((p::y::l)[j+1]!≠(p::y::l)[j]!)) ∘ Nat.succ)=fun j=>decide ((y::l)[j+1]!≠(y::l)[j]!):=by
   funext j
   simp [Function.comp]
  rw [e1]
  by_cases h:y=p
  ·subst h
   simp [Function.comp_def]
  ·simp [h,Function.comp_def]
theorem comp_once (l:List Int):Srt.comp l=once l:=by
 unfold Srt.comp Go.Lib.compact Go.Lib.compactUpTo
 cases l with
 | nil=>rfl
 | cons x l =>
  rw [once_cons,← oncer_eq,List.length_cons,List.range_succ_eq_map,List.filter_cons,List.filter_map]
  have e1:(Go.Lib.keeps (x::l).toArray ∘ Nat.succ)=fun j=>decide ((x::l)[j+1]!≠(x::l)[j]!):=by
   funext j
   simp [Function.comp,Go.Lib.keeps]
  rw [e1]
  simp [Go.Lib.keeps,Function.comp_def]
theorem values_comp (f:Int) (p:T):Srt.comp (Srt.sort (vals f p))=values f p:=comp_once _
end Pd
theorem lG (F:Heap) (x:Pd.At) (p:Pd.T) (u:Value) (hs:Pd.size p≤4611686018427387904) (hu:Pd.Row F u p.l) :
  NCall Tryz.prog 192 [.agg (Pd.cs p u),.int .i64 x.sw,.int .i64 x.port,.agg x.pk] [hpB F] fun r m=>r = .bool (Pd.hits x p)∧m=[hpB F]:=by
 refine NCall.fits (K:=fun r m=>r = .bool (Pd.hits x p)∧MemFits m [hpB F]) ?_ fun r m' h=>⟨r,_,rfl,h.2,h.1,rfl⟩
 have c:=gq _ F x p u (Nat.le_refl _) hs hu
 generalize Pd.hits x p=hb at *
 have hok:=hu.ok
 clear hs hu
 obtain ⟨k,f,v,l⟩:=p
 obtain ⟨sw,port,p0,p1,p2,p3⟩:=x
 simp only [Pd.At.av,Pd.At.pk,ab,Pd.T.l] at *
 refine aA Tryz.func192 rfl (by decide) ?_
 repeat' first|(intro K hK;(with_reducible refine gC ?_);refine cS [0] c ?_)|(refine sxZ ?_;try clear hK K)|refine sxW ?_ ?_<;>intro _|(intro K hK _;conv=>whnf)
 all_goals exact ⟨rfl,MemFits.pre 1 rfl⟩
theorem gA (f:Int) (hf : -9223372036854775808≤f∧f≤9223372036854775807) (t:TypeId) (ht:t=3):∀ (n:Nat) (F:Heap) (p:Pd.T) (u:Value) (out:List Int) (w:Value),Pd.size p≤n→out.length+Pd.size p≤2932031007402→Pd.Row F u p.l →
  NCall Tryz.prog 135 [.sl 1 w out.length,.agg (Pd.cs p u),.int .i64 f] [hpB F,⟨addrOf w,Srt.av out,.row w t 1 out.length⟩] fun r m=>∃ w',r = .sl 1 w' (out++Pd.vals f p).length∧m=[hpB F,⟨addrOf w',Srt.av (out++Pd.vals f p),.row w' t 1 (out++Pd.vals f p).length⟩]
 | 0,F,p,u,out,w,hn,_,_=>absurd (Pd.size_pos p) (by omega)
 | n+1,F,⟨k,a,v,l⟩,u,out,w,hn,hs,hu=>by
  subst ht
  refine NCall.fits (K:=fun r m=>∃ w',r = .sl 1 w' (out++Pd.vals f (.mk k a v l)).length∧MemFits m [hpB F,⟨addrOf w',Srt.av (out++Pd.vals f (.mk k a v l)),.row w' 3 1 (out++Pd.vals f (.mk k a v l)).length⟩]) ?_ fun r m' ⟨w',h1,h2⟩=>⟨r,_,rfl,h2,w',h1,rfl⟩
  have hu:Pd.Row F u l:=hu
  have hok:=hu.ok
  have e2:Pd.size (.mk k a v l)=1+Pd.sizeL l:=by rw [Pd.size]
  have hll:=Pd.length_le l
  have ih:∀ x∈l,∀ A,Pd.Row F A x.l→∀ (o:List Int) (w:Value),o.length+Pd.size x≤2932031007402→NCall Tryz.prog 135 [.sl 1 w o.length,.agg (Pd.cs x A),.int .i64 f] [hpB F,⟨addrOf w,Srt.av o,.row w 3 1 o.length⟩]
    fun r m=>∃ w',r = .sl 1 w' (o++Pd.vals f x).length∧m=[hpB F,⟨addrOf w',Srt.av (o++Pd.vals f x),.row w' 3 1 (o++Pd.vals f x).length⟩] :=
   fun x hx A hA o w ho=>gA f hf 3 rfl n F x A o w (by have:=Pd.size_lt (k:=k) (f:=a) (v:=v) hx;omega) ho hA
  generalize ho1:out++(if k=3∧a=f then [v] else [])=o1
  have hol:o1.length≤out.length+1:=by rw [← ho1,List.length_append];split<;>simp
  have hav:=Srt.av_len out
  have key:∀ (i:Nat) (w:Value),i≤l.length→(o1++Pd.valsL f (l.take i)).length≤out.length+1+Pd.sizeL (l.take i):=fun i w hi=>by
   have:=Pd.valsL_len f (l.take i)
   rw [List.length_append]
   omega
  have hfin:out++Pd.vals f (.mk k a v l)=o1++Pd.valsL f l:=by rw [Pd.vals,← List.append_assoc,ho1]
  rw [hfin]
  refine aA Tryz.func135 rfl (by decide) ?_
  rw [ab]
  by_cases hka:k=3∧a=f
  ·rw [if_pos hka] at ho1
   obtain ⟨rfl,rfl⟩:=hka
   have hav1:=Srt.av_append out [v]
   rw [ho1] at hav1
   have hol1:o1.length=out.length+1:=by rw [← ho1,List.length_append];rfl
   generalize Srt.av out=ao at *
   repeat' first|(refine sxZ ?_;try clear hK K)|refine sxW ?_ ?_<;>intro _|(intro K hK _;conv=>whnf)
   rename_i w2
   have e0:o1++Pd.valsL a (l.take 0)=o1:=by simp [Pd.valsL]
   refine aD (α:=Value × Nat) (fun (w,i)=>i≤l.length) (fun (w,i)=>[.set (.sl 1 w (o1++Pd.valsL a (l.take i)).length),.k,.k,.k,.k,.k,.k,.k,.d,.k,.k,.k,.k,.k,.k,.k,.k,.k,.k,.k,.k,.k,.k,.k,.k,.k,.set (.int .i64 i),.d,.d,.d,.d,.d,.d,.d,.d,.k]) (fun (w,i)=>[.k,.set ⟨addrOf w,Srt.av (o1++Pd.valsL a (l.take i)),.row w 3 1 (o1++Pd.valsL a (l.take i)).length⟩]) (fun (w,i)=>l.length - i) (w2,0) (Nat.zero_le _) ?_ ?_ ?_
   ·dsimp only
    rw [e0]
    rw [hol1]
    exact aC
   ·dsimp only
    rw [e0]
    exact MemFits.congr (by simp only [autoM,hav1,hol1];rfl)
   (intro ⟨w,i⟩ hi;intro K hK;(conv=>whnf);refine hK _ _ ?_;clear hK K)
   dsimp only
   by_cases hlt:i<l.length
   ·have hx:l[i]?=some l[i]:=List.getElem?_eq_getElem hlt
    obtain ⟨A,cap,hA,c0,c1,c2,c3⟩:=hu.get hx
    have hmem:=List.mem_of_getElem? hx
    have hkey:=key i w hi
    have hst:=Pd.sizeL_take hlt
    have hle2:=Pd.sizeL_le (l:=l) (k:=i+1)
    have hO:o1++Pd.valsL a (l.take (i+1))=o1++Pd.valsL a (l.take i)++Pd.vals a l[i]:=by rw [Pd.valsL_take _ hlt,List.append_assoc]
    have c:=ih _ hmem _ hA (o1++Pd.valsL a (l.take i)) w (by omega)
    rw [← hO] at c
    clear ih key
    generalize l[i]=x at *
    obtain ⟨xk,xf,xv,xl⟩:=x
    simp only [Pd.cs,Pd.T.k,Pd.T.f,Pd.T.v,Pd.T.l] at c c0 c1 c2 c3 hA
    generalize o1++Pd.valsL a (l.take i)=O at *
    generalize hO2:o1++Pd.valsL a (l.take (i+1))=O2 at *
    repeat' first|(intro K hK;(with_reducible refine gC ?_);(refine cN [0,1] c ?_;rintro _ _ ⟨w',rfl,rfl⟩;refine cR ?_))|(refine sxZ ?_;try clear hK K)|refine sxW ?_ ?_<;>intro _|(intro K hK _;conv=>whnf)
    refine aB (w',i+1) hlt (by show l.length - (i+1)<l.length - i;omega) ?_ (MemFits.pre 4 ?_)
    ·dsimp only
     rw [hO2]
     exact aC
    ·simp only [autoM,List.take,hO2]
     try rfl
   ·have hkl:i=l.length:=by omega
    subst hkl
    rw [List.take_length]
    repeat' first|(refine sxZ ?_;try clear hK K)|refine sxW ?_ ?_<;>intro _|(intro K hK _;conv=>whnf)
    all_goals exact ⟨w,rfl,MemFits.pre 2 rfl⟩
  ·rw [if_neg hka,List.append_nil] at ho1
   subst o1
   by_cases hk3:k=3
   ·have haf:a≠f:=fun e=>hka ⟨hk3,e⟩
    repeat' first|(refine sxZ ?_;try clear hK K)|refine sxW ?_ ?_<;>intro _|(intro K hK _;conv=>whnf)
    have e0:out++Pd.valsL f (l.take 0)=out:=by simp [Pd.valsL]
    refine aD (α:=Value × Nat) (fun (w,i)=>i≤l.length) (fun (w,i)=>[.set (.sl 1 w (out++Pd.valsL f (l.take i)).length),.k,.k,.k,.k,.k,.k,.k,.d,.k,.k,.k,.k,.k,.k,.k,.k,.k,.k,.k,.k,.k,.k,.k,.k,.k,.set (.int .i64 i),.d,.d,.d,.d,.d,.d,.d,.d,.k]) (fun (w,i)=>[.k,.set ⟨addrOf w,Srt.av (out++Pd.valsL f (l.take i)),.row w 3 1 (out++Pd.valsL f (l.take i)).length⟩]) (fun (w,i)=>l.length - i) (w,0) (Nat.zero_le _) ?_ ?_ ?_
    ·dsimp only
     rw [e0]
     exact aC
    ·dsimp only
     rw [e0]
     exact MemFits.eq rfl
    (intro ⟨w,i⟩ hi;intro K hK;(conv=>whnf);refine hK _ _ ?_;clear hK K)
    dsimp only
    by_cases hlt:i<l.length
    ·have hx:l[i]?=some l[i]:=List.getElem?_eq_getElem hlt
     obtain ⟨A,cap,hA,c0,c1,c2,c3⟩:=hu.get hx
     have hmem:=List.mem_of_getElem? hx
     have hkey:=key i w hi
     have hst:=Pd.sizeL_take hlt
     have hle2:=Pd.sizeL_le (l:=l) (k:=i+1)
     have hO:out++Pd.valsL f (l.take (i+1))=out++Pd.valsL f (l.take i)++Pd.vals f l[i]:=by rw [Pd.valsL_take _ hlt,List.append_assoc]
     have c:=ih _ hmem _ hA (out++Pd.valsL f (l.take i)) w (by omega)
     rw [← hO] at c
     clear ih key
     generalize l[i]=x at *
     obtain ⟨xk,xf,xv,xl⟩:=x
     simp only [Pd.cs,Pd.T.k,Pd.T.f,Pd.T.v,Pd.T.l] at c c0 c1 c2 c3 hA
     generalize out++Pd.valsL f (l.take i)=O at *
     generalize hO2:out++Pd.valsL f (l.take (i+1))=O2 at *
     repeat' first|(intro K hK;(with_reducible refine gC ?_);(refine cN [0,1] c ?_;rintro _ _ ⟨w',rfl,rfl⟩;refine cR ?_))|(refine sxZ ?_;try clear hK K)|refine sxW ?_ ?_<;>intro _|(intro K hK _;conv=>whnf)
     refine aB (w',i+1) hlt (by show l.length - (i+1)<l.length - i;omega) ?_ (MemFits.pre 3 ?_)
     ·dsimp only
      rw [hO2]
      exact aC
     ·simp only [autoM,List.take,hO2]
      try rfl
    ·have hkl:i=l.length:=by omega
     subst hkl
     rw [List.take_length]
     repeat' first|(refine sxZ ?_;try clear hK K)|refine sxW ?_ ?_<;>intro _|(intro K hK _;conv=>whnf)
     all_goals exact ⟨w,rfl,MemFits.pre 2 rfl⟩
   ·repeat' first|(refine sxZ ?_;try clear hK K)|refine sxW ?_ ?_<;>intro _|(intro K hK _;conv=>whnf)
    have e0:out++Pd.valsL f (l.take 0)=out:=by simp [Pd.valsL]
    refine aD (α:=Value × Nat) (fun (w,i)=>i≤l.length) (fun (w,i)=>[.set (.sl 1 w (out++Pd.valsL f (l.take i)).length),.k,.k,.k,.k,.k,.k,.k,.d,.k,.k,.k,.k,.k,.k,.k,.k,.k,.k,.k,.k,.k,.k,.k,.k,.k,.set (.int .i64 i),.d,.d,.d,.d,.d,.d,.d,.d,.k]) (fun (w,i)=>[.k,.set ⟨addrOf w,Srt.av (out++Pd.valsL f (l.take i)),.row w 3 1 (out++Pd.valsL f (l.take i)).length⟩]) (fun (w,i)=>l.length - i) (w,0) (Nat.zero_le _) ?_ ?_ ?_
    ·dsimp only
     rw [e0]
     exact aC
    ·dsimp only
     rw [e0]
     exact MemFits.eq rfl
    (intro ⟨w,i⟩ hi;intro K hK;(conv=>whnf);refine hK _ _ ?_;clear hK K)
    dsimp only
    by_cases hlt:i<l.length
    ·have hx:l[i]?=some l[i]:=List.getElem?_eq_getElem hlt
     obtain ⟨A,cap,hA,c0,c1,c2,c3⟩:=hu.get hx
     have hmem:=List.mem_of_getElem? hx
     have hkey:=key i w hi
     have hst:=Pd.sizeL_take hlt
     have hle2:=Pd.sizeL_le (l:=l) (k:=i+1)
     have hO:out++Pd.valsL f (l.take (i+1))=out++Pd.valsL f (l.take i)++Pd.vals f l[i]:=by rw [Pd.valsL_take _ hlt,List.append_assoc]
     have c:=ih _ hmem _ hA (out++Pd.valsL f (l.take i)) w (by omega)
     rw [← hO] at c
     clear ih key
     generalize l[i]=x at *
     obtain ⟨xk,xf,xv,xl⟩:=x
     simp only [Pd.cs,Pd.T.k,Pd.T.f,Pd.T.v,Pd.T.l] at c c0 c1 c2 c3 hA
     generalize out++Pd.valsL f (l.take i)=O at *
     generalize hO2:out++Pd.valsL f (l.take (i+1))=O2 at *
     repeat' first|(intro K hK;(with_reducible refine gC ?_);(refine cN [0,1] c ?_;rintro _ _ ⟨w',rfl,rfl⟩;refine cR ?_))|(refine sxZ ?_;try clear hK K)|refine sxW ?_ ?_<;>intro _|(intro K hK _;conv=>whnf)
     refine aB (w',i+1) hlt (by show l.length - (i+1)<l.length - i;omega) ?_ (MemFits.pre 3 ?_)
     ·dsimp only
      rw [hO2]
      exact aC
     ·simp only [autoM,List.take,hO2]
      try rfl
    ·have hkl:i=l.length:=by omega
     subst hkl
     rw [List.take_length]
     repeat' first|(refine sxZ ?_;try clear hK K)|refine sxW ?_ ?_<;>intro _|(intro K hK _;conv=>whnf)
     all_goals exact ⟨w,rfl,MemFits.pre 2 rfl⟩
end Go.Proofs.YtmehinfgdcmmjaaGreat
namespace Go.Sx
open Go.RowKit
open Go.ChangeMaps (setBlock)
set_option linter.unusedVariables false
set_option maxRecDepth 20000
def mapL (L:List (Value × Value)):List MapEntry:=L.mapIdx fun i p=>⟨p.1,p.2,i⟩
def aS (L:List (Value × Value)):Obj:=.map (mapL L).toArray L.length
def aa (b:Nat) (L:List (Value × Value)):Blk:=⟨⟨b,0,none⟩,[],.obj (aS L)⟩
def itB (c b n:Nat) (seen:Array Nat):Blk:=⟨⟨c,0,none⟩,[],.obj (.mapIter (some b) n seen n)⟩
theorem kW (L:List (Value × Value)):(mapL L).length=L.length:=by simp [mapL]
theorem am (L:List (Value × Value)) (i:Nat):(mapL L)[i]?=(L[i]?).map fun p=>⟨p.1,p.2,i⟩:=by simp [mapL]
section
variable {P:Program}
theorem ei {w:World} {b k:Nat} {o o':Obj} (h:w.heap[b]?=some o):(setBlock w b o').heap[k]?=if k=b then some o' else w.heap[k]?:=by
 have hlt:=(Array.getElem?_eq_some_iff.1 h).1
 simp only [setBlock]
 rw [Array.getElem?_setIfInBounds]
 by_cases e:b=k
 ·subst e;simp [hlt]
 ·rw [if_neg e,if_neg (fun e'=>e e'.symm)]
theorem MemOk.obj {m:List Blk} {w:World} (hm:MemOk m w) {j b:Nat} {o:Obj} (hj:m[j]?=some ⟨⟨b,0,none⟩,[],.obj o⟩):w.heap[b]?=some o :=
 (hm.holds _ (List.mem_of_getElem? hj)).2.2.2
theorem mT {m:List Blk} {w w1:World} {j b:Nat} {o:Obj} (o':Obj) (hm:MemOk m w) (hj:m[j]?=some ⟨⟨b,0,none⟩,[],.obj o⟩) (hw1:w1=w∨w1=w.drew) :
  MemOk (m.set j ⟨⟨b,0,none⟩,[],.obj o'⟩) (setBlock w1 b o')∧Fr (wrs m) w (setBlock w1 b o')∧Fresh (own m) w (m.set j ⟨⟨b,0,none⟩,[],.obj o'⟩):=by
 have hb:=hm.obj hj
 have hh:w1.heap=w.heap:=by rcases hw1 with rfl | rfl<;>rfl
 have hb1:w1.heap[b]?=some o:=by rw [hh];exact hb
 have hmem:=List.mem_of_getElem? hj
 have hsz:(setBlock w1 b o').heap.size=w.heap.size:=by simp [setBlock,hh]
 have hoth:∀ k,k≠b→(setBlock w1 b o').heap[k]?=w.heap[k]?:=fun k hk=>by rw [ei hb1,if_neg hk,hh]
 refine ⟨?_,?_,?_⟩
 ·refine hm.set (Nat.le_of_eq hsz.symm) hj rfl (fun c hc hlt=>hoth c fun e=>hc (by rw [e];rfl)) ⟨rfl,rfl,rfl,?_⟩ rfl (.inr (.inl rfl))
  rw [ei hb1,if_pos rfl]
 ·refine ⟨?_,?_,?_,Nat.le_of_eq hsz.symm,fun k hk hS=>hoth k fun e=>hS ⟨_,hmem,rfl,by rw [e];rfl⟩⟩
  all_goals rcases hw1 with rfl | rfl<;>rfl
 ·exact Fresh.set (Fresh.self _ _) rfl fun c hc=>.inl ⟨_,hmem,rfl,hc⟩
theorem eH {s:Sem Value} {m:List Blk} {K:AV→List Blk→Prop} (h:NMap P s m K):NMap P s m K:=h
theorem NMap.put {s:Sem Value} {m:List Blk} {K:AV→List Blk→Prop} {j b:Nat} {o o':Obj} {r:AV} (hj:m[j]?=some ⟨⟨b,0,none⟩,[],.obj o⟩)
  (h:∀ w,w.heap[b]?=some o→MemOk m w→∃ w1,(w1=w∨w1=w.drew)∧s.run P w = .ok r.den (setBlock w1 b o')) (hK:K r (m.set j ⟨⟨b,0,none⟩,[],.obj o'⟩)):NMap P s m K:=by
 rw [dM]
 intro w hm
 obtain ⟨w1,hw1,hrun⟩:=h w (hm.obj hj) hm
 obtain ⟨h1,h2,h3⟩:=mT o' hm hj hw1
 exact ⟨r,_,_,hrun,hK,h1,h2,h3⟩
theorem NMap.read {s:Sem Value} {m:List Blk} {K:AV→List Blk→Prop} {r:AV} (h:∀ w,MemOk m w→s.run P w = .ok r.den w) (hK:K r m):NMap P s m K:=by
 rw [dM]
 exact fun w hm=>⟨r,m,w,h w hm,hK,hm,Fr.refl _ _,Fresh.self _ _⟩
theorem NMap.new {s:Sem Value} {m:List Blk} {K:AV→List Blk→Prop} {o:Obj} {r:Nat→AV} (h:∀ w,MemOk m w→s.run P w = .ok (r w.heap.size).den (w.alloc o)) (hK:∀ b,K (r b) (m++[⟨⟨b,0,none⟩,[],.obj o⟩])):NMap P s m K:=by
 rw [dM]
 intro w hm
 refine ⟨_,_,_,h w hm,hK _,?_,Fr.alloc _ _ _,?_⟩
 ·refine hm.push (by simp) (fun k hk b hb=>Below.heap_alloc _ _ _ ((hm.holds k hk).lt hb)) ?_ (fun b hb=>?_)
  ·exact ⟨rfl,rfl,rfl,heap_alloc_new w _⟩
  ·simp [Blk.foot,Blk.bn] at hb;omega
 ·refine (Fresh.self _ _).push (rfl) fun b hb=>?_
  simp [Blk.bn] at hb
  omega
structure fM (P:Program) (kt:TypeId) (ok:Value→Prop):Prop where
 check:∀ e x w,ok x→(Instr.checkKey e 10000 kt x).run P w = .ok () w
 under:∃ td,P.underlying kt=some td∧∀ x y,ok x→ok y→Instr.sameNow td x y=none∨(x=y∧Instr.sameNow td x y=some true)∨(x≠y∧Instr.sameNow td x y=some false)
 eq:∀ x y w,ok x→ok y→(x=y∧(Op.equal kt x y).run P w = .ok true w)∨(x≠y∧(Op.equal kt x y).run P w = .ok false w)
 bits:∀ x,ok x→Instr.sameBits 10000 x x=true
def bV (L:List (Value × Value)) (k:Value):Option (Nat × Value)→Prop
 | none=>∀ q∈L,q.1≠k
 | some (i,v)=>L[i]?=some (k,v)∧∀ j q,j<i→L[j]?=some q→q.1≠k
def eV (L:List MapEntry) (k:Value):Option (Nat × Value)→Prop
 | none=>∀ q∈L,q.key≠k
 | some (i,v)=>(∃ q,L[i]?=some q∧q.key=k∧q.val=v)∧∀ (j:Nat) (q:MapEntry),j<i→L[j]?=some q→q.key≠k
theorem bV.e {L:List (Value × Value)} {k:Value} {r:Option (Nat × Value)} (h:bV L k r):eV (mapL L) k r:=by
 cases r with
 | none =>
  intro q hq
  obtain ⟨i,hi⟩:=List.getElem?_of_mem hq
  rw [am] at hi
  cases hL:L[i]? with
  | none=>rw [hL] at hi;cases hi
  | some p =>
   rw [hL] at hi
   injection hi with hi
   subst hi
   exact h p (List.mem_of_getElem? hL)
 | some x =>
  obtain ⟨i,v⟩:=x
  refine ⟨⟨⟨k,v,i⟩,by rw [am,h.1];rfl,rfl,rfl⟩,fun j q hj hq=>?_⟩
  rw [am] at hq
  cases hL:L[j]? with
  | none=>rw [hL] at hq;cases hq
  | some p =>
   rw [hL] at hq
   injection hq with hq
   subst hq
   exact h.2 j p hj hL
theorem eV.tail {e:MapEntry} {L:List MapEntry} {k:Value} (hne:e.key≠k) {r:Option (Nat × Value)} (h:eV (e::L) k r):∃ r',eV L k r'∧r=r'.map fun p=>(p.1+1,p.2):=by
 cases r with
 | none=>exact ⟨none,fun q hq=>h q (List.mem_cons_of_mem _ hq),rfl⟩
 | some x =>
  obtain ⟨i,v⟩:=x
  obtain ⟨⟨q,h1,h2,h3⟩,h4⟩:=h
  cases i with
  | zero=>simp at h1;subst h1;exact absurd h2 hne
  | succ i=>exact ⟨some (i,v),⟨⟨q,by simpa using h1,h2,h3⟩,fun j p hj hp=>h4 (j+1) p (by omega) (by simpa using hp)⟩,rfl⟩
theorem eV.head {e:MapEntry} {L:List MapEntry} {r:Option (Nat × Value)} (h:eV (e::L) e.key r):r=some (0,e.val):=by
 cases r with
 | none=>exact absurd rfl (h e (by simp))
 | some x =>
  obtain ⟨i,v⟩:=x
  obtain ⟨⟨q,h1,h2,h3⟩,h4⟩:=h
  cases i with
  | zero=>simp at h1;subst h1;rw [h3]
  | succ i=>exact absurd rfl (h4 0 e (by omega) rfl)
theorem eJ {kt:TypeId} {ok:Value→Prop} (hK:fM P kt ok) {k:Value} (hk:ok k) (w:World):∀ (L:List MapEntry) (i:Nat) (r:Option (Nat × Value)),(∀ q∈L,ok q.key)→eV L k r →
  (Instr.findAsking kt k L i).run P w = .ok (r.map fun p=>(p.1+i,p.2)) w
 | [],i,r,_,h=>by
  cases r with
  | none=>rfl
  | some x=>obtain ⟨⟨q,h1,_⟩,_⟩:=h;simp at h1
 | e::L,i,r,hL,h=>by
  unfold Instr.findAsking
  rw [Sem.run_bind]
  rcases hK.eq k e.key w hk (hL e (by simp)) with ⟨h1,h2⟩ | ⟨h1,h2⟩
  ·subst h1
   rw [h2,h.head]
   simp
  ·obtain ⟨r',h3,rfl⟩:=h.tail (Ne.symm h1)
   rw [h2]
   simp only [Result.andThen_ok,Bool.false_eq_true,if_false]
   rw [eJ hK hk w L (i+1) r' (fun q hq=>hL q (List.mem_cons_of_mem _ hq)) h3]
   cases r' with
   | none=>rfl
   | some p=>simp only [Option.map_some];rw [show p.1+(i+1)=p.1+1+i by omega]
theorem fj {td:TypeDesc} {ok:Value→Prop} (hT:∀ x y,ok x→ok y→Instr.sameNow td x y=none∨(x=y∧Instr.sameNow td x y=some true)∨(x≠y∧Instr.sameNow td x y=some false)) {k:Value} (hk:ok k):∀ (L:List MapEntry) (i:Nat) (r:Option (Nat × Value)),(∀ q∈L,ok q.key)→eV L k r →
  Instr.findNow td k L i=none∨Instr.findNow td k L i=some (r.map fun p=>(p.1+i,p.2))
 | [],i,r,_,h=>by
  cases r with
  | none=>exact .inr rfl
  | some x=>obtain ⟨⟨q,h1,_⟩,_⟩:=h;simp at h1
 | e::L,i,r,hL,h=>by
  unfold Instr.findNow
  rcases hT k e.key hk (hL e (by simp)) with h1 | ⟨h1,h2⟩ | ⟨h1,h2⟩
  ·rw [h1];exact .inl rfl
  ·rw [h2]
   subst h1
   rw [h.head]
   exact .inr (by simp)
  ·rw [h2]
   obtain ⟨r',h3,rfl⟩:=h.tail (Ne.symm h1)
   rcases fj hT hk L (i+1) r' (fun q hq=>hL q (List.mem_cons_of_mem _ hq)) h3 with h4 | h4
   ·exact .inl h4
   ·refine .inr ?_
    simp only
    rw [h4]
    cases r' with
    | none=>rfl
    | some p=>simp only [Option.map_some];rw [show p.1+(i+1)=p.1+1+i by omega]
theorem be {kt:TypeId} {ok:Value→Prop} (hK:fM P kt ok) {L:List (Value × Value)} {k:Value} {r:Option (Nat × Value)} (hL:∀ q∈L,ok q.1) (hk:ok k) (h:bV L k r) (w:World) :
  (Instr.findKey kt k (mapL L)).run P w = .ok r w:=by
 have hL':∀ q∈mapL L,ok q.key:=fun q hq=>by
  obtain ⟨i,hi⟩:=List.getElem?_of_mem hq
  rw [am] at hi
  cases hLi:L[i]? with
  | none=>rw [hLi] at hi;cases hi
  | some p =>
   rw [hLi] at hi
   injection hi with hi
   subst hi
   exact hL p (List.mem_of_getElem? hLi)
 obtain ⟨td,hu,hT⟩:=hK.under
 have e:r.map (fun p=>(p.1+0,p.2))=r:=by cases r<;>rfl
 unfold Instr.findKey
 rw [Sem.run_bind,run_underlying hu,Result.andThen_ok]
 rcases fj hT hk (mapL L) 0 r hL' h.e with h1 | h1
 ·rw [h1]
  have:=eJ hK hk w (mapL L) 0 r hL' h.e
  rw [e] at this
  exact this
 ·rw [h1,e]
  rfl
theorem NMap.make {t:TypeId} {m:List Blk} {K:AV→List Blk→Prop} (h:∀ b,appK m (aa b []) (K (.raw (.map (some b))))):NMap P (Instr.makeMap t none) m K :=
 NMap.new (o:=aS []) (r:=fun b=>.raw (.map (some b))) (fun w _=>rfl) fun b=>bj (h b)
theorem bL {w:World} {b:Nat} {es:Array MapEntry} {c:Nat} (h:w.heap[b]?=some (.map es c)):(getObj b).run P w = .ok (.map es c) w:=by simp [getObj,Sem.run,h]
theorem dH {w:World} {b:Nat} {es es':Array MapEntry} {c c':Nat} (h:w.heap[b]?=some (.map es c)):(setObj b (.map es' c')).run P w = .ok () (setBlock w b (.map es' c')):=by
 simp [setObj,Sem.run,h,setBlock]
theorem im (L:List (Value × Value)) (k v:Value):(mapL L).toArray.push ⟨k,v,L.length⟩=(mapL (L++[(k,v)])).toArray:=by
 simp [mapL,List.mapIdx_append]
theorem NMap.upd_new {t kt et:TypeId} {ok:Value→Prop} {m:List Blk} {K:AV→List Blk→Prop} {j b:Nat} {L:List (Value × Value)} {k v:Value} (hu:P.underlying t=some (.map kt et)) (hT:fM P kt ok) (hj:m[j]?=some (aa b L)) (hL:∀ q∈L,ok q.1) (hk:ok k)
  (hno:∀ q∈L,q.1≠k) (hK:setBlkK m j (aa b (L++[(k,v)])) (K (.raw undef))):NMap P (do Instr.mapUpdate t (.map (some b)) k v;pure undef) m K:=by
 have hK:=(aX hK).2
 refine NMap.put (o:=aS L) (o':=aS (L++[(k,v)])) (r:=.raw undef) hj (fun w hb hm=>⟨w,.inl rfl,?_⟩) hK
 have hf:=be hT hL hk (r:=none) hno w
 simp only [Instr.mapUpdate,Sem.run_bind,run_underlying hu,Result.andThen_ok]
 simp only [bL hb,Result.andThen_ok,aS,Sem.run_bind,hT.check false k w hk,hf,dH hb,AV.den,im]
 simp [Sem.run_pure]
theorem NMap.upd_old {t kt et:TypeId} {ok:Value→Prop} {m:List Blk} {K:AV→List Blk→Prop} {j b i:Nat} {L:List (Value × Value)} {k v v0:Value} (hu:P.underlying t=some (.map kt et)) (hT:fM P kt ok) (hj:m[j]?=some (aa b L)) (hL:∀ q∈L,ok q.1) (hk:ok k)
  (hi:bV L k (some (i,v0))) (hK:setBlkK m j (aa b (L.set i (k,v))) (K (.raw undef))):NMap P (do Instr.mapUpdate t (.map (some b)) k v;pure undef) m K:=by
 have hK:=(aX hK).2
 refine NMap.put (o:=aS L) (o':=aS (L.set i (k,v))) (r:=.raw undef) hj (fun w hb hm=>⟨w,.inl rfl,?_⟩) hK
 have hf:=be hT hL hk (r:=some (i,v0)) hi w
 have hi':(mapL L).toArray[i]?=some ⟨k,v0,i⟩:=by rw [List.getElem?_toArray,am,hi.1];rfl
 have hm':((mapL L).toArray.modify i fun e=>{ e with key:=k,val:=v })=(mapL (L.set i (k,v))).toArray:=by
  apply Array.ext_getElem?
  intro n
  rw [Array.getElem?_modify,List.getElem?_toArray,List.getElem?_toArray,am,am,List.getElem?_set]
  have hlt:=(List.getElem?_eq_some_iff.1 hi.1).1
  by_cases e:i=n
  ·subst e
   simp [hlt]
  ·simp [e]
 simp only [Instr.mapUpdate,Sem.run_bind,run_underlying hu,Result.andThen_ok]
 simp only [bL hb,Result.andThen_ok,aS,Sem.run_bind,hT.check false k w hk,hf,hi',Option.map_some,Option.getD_some,Instr.keyThatStays,hT.bits k hk,if_true,Sem.run_pure,dH hb,AV.den,hm',List.length_set]
theorem fB (em:Bool) (w:World):∀ (n d:Nat) (t:TypeId) (ls:List Leaf) (x:AV) (xs:List AV),leafT P n t=some ls→flatT P n t=true→jj P t x xs→(∃ b,eqCells ls xs xs=some b) →
  (Instr.checkKey em (d+n) t x.den).run P w = .ok () w
 | 0,_,_,_,_,_,h,_,_,_=>by simp [leafT] at h
 | n+1,d,t,ls,x,xs,hl,hf,hx,he=>by
  rw [← Nat.add_assoc]
  unfold leafT at hl
  unfold flatT at hf
  cases hu:P.underlying t with
  | none=>simp [hu] at hl
  | some kd =>
   cases hs:szT P t with
   | none=>simp [hu,hs] at hf
   | some s =>
    rw [hu] at hl
    rw [hu,hs] at hf
    unfold Instr.checkKey
    rw [Sem.run_bind,run_underlying hu,Result.andThen_ok]
    cases kd<;>simp only [Option.some.injEq,reduceCtorEq] at hl
    case bool=>rfl
    case int k=>rfl
    case string=>rfl
    case struct fs =>
     have ha:aggT P t=some true:=by simp [aggT,hu]
     have hx':x = .agg xs:=by
      rcases hx with ⟨_,h⟩ | ⟨h1,_⟩
      ·exact h
      ·rw [ha] at h1;cases h1
     subst hx'
     simp only [Bool.and_eq_true,Bool.not_eq_true',beq_iff_eq] at hf
     simp only [AV.den]
     rw [← Array.forIn_toList]
     have h2:=hf.2
     have h3:∃ b,eqCells ls (xs.drop 0) (xs.drop 0)=some b:=by simpa using he
     have h0:0≤xs.length:=Nat.zero_le _
     clear he hf hx hs
     generalize fs.toList=L at hl h2 ⊢
     generalize (0:Nat)=o at h2 h3 h0
     induction L generalizing o ls with
     | nil=>simp
     | cons f L ih =>
      simp only [leafF] at hl
      split at hl
      ·rename_i lx ly hlx hly
       injection hl with hl
       subst hl
       simp only [flatF] at h2
       split at h2
       ·rename_i s1 hb hs1
        have hs2:=cI n f.type lx hlx hb
        rw [hs2] at hs1
        injection hs1 with hs1
        subst hs1
        split at h2
        ·rename_i h4 h5
         simp only [beq_iff_eq,beq_eq_false_iff_ne,ne_eq] at h4 h5
         obtain ⟨b,h3⟩:=h3
         obtain ⟨b1,b2,h6,h7,rfl⟩:=bx h3
         have hlen:=ay h3
         simp only [List.length_drop,List.length_append] at hlen
         obtain ⟨u,hu1,hu2⟩:=dA hlx hb (cs:=xs) (off:=o) (by omega)
         have hr:=fB em w n d f.type lx u _ hlx hb hu2 ⟨b1,h6⟩
         rw [List.drop_drop] at h7
         have hi:=ih ly hly (o+lx.length) h2 ⟨b2,h7⟩ (by omega)
         simp only [List.forIn_cons,Sem.run_bind,h4,h5,ne_eq,not_false_eq_true,if_true,hu1.runPart w,Result.andThen_ok,hr,Sem.run_pure] at hi ⊢
         exact hi
        ·cases h2
       ·cases h2
      ·cases hl
    case array len e =>
     have ha:aggT P t=some true:=by simp [aggT,hu]
     have hx':x = .agg xs:=by
      rcases hx with ⟨_,h⟩ | ⟨h1,_⟩
      ·exact h
      ·rw [ha] at h1;cases h1
     subst hx'
     split at hl
     ·rename_i l hle
      injection hl with hl
      subst hl
      simp only [Bool.and_eq_true] at hf
      have hse:=cI n e l hle hf.1
      simp only [AV.den]
      simp only [Std.Legacy.Range.forIn_eq_forIn_range',Std.Legacy.Range.size,Nat.sub_zero,Nat.add_one_sub_one,Nat.div_one]
      have key:∀ (m k:Nat),(∃ b,eqCells (repLeaf l m) (xs.drop (k*l.length)) (xs.drop (k*l.length))=some b) →
        (forIn (List.range' k m) PUnit.unit fun i r=>do
         Instr.checkKey em (d+n) e (← part e (denL xs).toArray (i*(← sizeOf e)))
         pure PUnit.unit
         pure (ForInStep.yield PUnit.unit):Sem PUnit).run P w = .ok PUnit.unit w:=by
       intro m
       induction m with
       | zero=>intro k _;simp
       | succ m ih =>
        intro k ⟨b,h3⟩
        simp only [repLeaf] at h3
        have hlen:=ay h3
        simp only [List.length_drop,List.length_append] at hlen
        obtain ⟨b1,b2,h6,h7,rfl⟩:=bx h3
        rw [List.drop_drop] at h7
        have hc:l.length=0→k*l.length=0:=fun h=>by rw [h,Nat.mul_zero]
        obtain ⟨u,hu1,hu2⟩:=dA hle hf.1 (cs:=xs) (off:=k*l.length) (by omega)
        have hr:=fB em w n d e l u _ hle hf.1 hu2 ⟨b1,h6⟩
        have hi:=ih (k+1) ⟨b2,by rw [Nat.add_mul,Nat.one_mul];exact h7⟩
        simp only [List.range'_succ,List.forIn_cons,Sem.run_bind,run_sizeOf hse,hu1.runPart w,Result.andThen_ok,hr,Sem.run_pure]
        exact hi
      have:=key len 0 (by simpa using he)
      simp only [Sem.run_bind,Sem.run_pure] at this ⊢
      rw [this]
      rfl
     ·cases hl
def fK (l:List Int):List AV:=l.map fun n=>.int .i64 n
def gp (l:List Int):Value:=.agg (l.map fun n=>Value.int .i64 n).toArray
theorem eY (l:List Int):(AV.agg (fK l)).den=gp l:=by
 unfold fK gp
 rw [AV.den]
 congr 2
 induction l with
 | nil=>rfl
 | cons x l ih=>rw [List.map_cons,denL,ih,List.map_cons];rfl
theorem dj:∀ (a b:List Int),a.length=b.length→eqCells (List.replicate a.length .i) (fK a) (fK b)=some (decide (a=b))
 | [],[],_=>by simp [fK,eqCells]
 | [],_::_,h=>by simp at h
 | _::_,[],h=>by simp at h
 | x::a,y::b,h=>by
  have ih:=dj a b (by simpa using h)
  unfold fK at *
  simp only [List.map_cons,List.length_cons,List.replicate_succ,eqCells,ih,eqCell,sameKind]
  by_cases h1:x=y<;>by_cases h2:a=b<;>simp [h1,h2]
theorem fM.ints {kt:TypeId} {n:Nat} (hl:leafT P 8 kt=some (List.replicate n .i)) (hf:flatT P 8 kt=true) (ha:aggT P kt=some true):fM P kt fun v=>∃ l:List Int,l.length=n∧v=gp l where
 check e x w:=by
  rintro ⟨l,rfl,rfl⟩
  rw [← eY]
  exact fB e w 8 9992 kt _ _ (fK l) hl hf (.inl ⟨ha,rfl⟩) ⟨_,dj l l rfl⟩
 under:=by
  unfold aggT at ha
  cases hu:P.underlying kt with
  | none=>rw [hu] at ha;cases ha
  | some td =>
   refine ⟨td,rfl,fun x y hx hy=>.inl ?_⟩
   obtain ⟨l,_,rfl⟩:=hx
   obtain ⟨l',_,rfl⟩:=hy
   cases td<;>rfl
 eq x y w:=by
  rintro ⟨a,ha1,rfl⟩ ⟨b,hb1,rfl⟩
  have he:=dj a b (by omega)
  rw [ha1] at he
  have h1:=di w 8 9992 kt _ (.agg (fK a)) (.agg (fK b)) _ _ _ hl hf (.inl ⟨ha,rfl⟩) (.inl ⟨ha,rfl⟩) he
  rw [eY,eY] at h1
  by_cases e:a=b
  ·subst e
   rw [show decide (a=a)=true by simp] at h1
   exact .inl ⟨rfl,h1⟩
  ·rw [decide_eq_false e] at h1
   refine .inr ⟨fun h=>e ?_,h1⟩
   unfold gp at h
   injection h with h
   have h2:=congrArg Array.toList h
   simp only  at h2
   exact (List.map_inj_right (fun p q h=>by injection h)).1 h2
 bits x:=by
  rintro ⟨l,_,rfl⟩
  unfold gp
  have:∀ (k:Nat) (a:List Int),((a.map fun n=>Value.int .i64 n).zip (a.map fun n=>Value.int .i64 n)).all (fun (x,y)=>Instr.sameBits k x y)=true:=fun k a=>by
   induction a with
   | nil=>rfl
   | cons x a ih=>simp only [List.map_cons,List.zip_cons_cons,List.all_cons,ih,Bool.and_true];simp [Instr.sameBits]
  simp only [Instr.sameBits,beq_self_eq_true,Bool.true_and]
  exact this _ l
def bW (m:List Blk) (b:Nat) (L:List (Value × Value)):Prop:=∀ w,MemOk m w→w.heap[b]?=some (aS L)
theorem bW.own {m:List Blk} {j b:Nat} {L:List (Value × Value)} (hj:m[j]?=some (aa b L)):bW m b L:=fun w hm=>hm.obj hj
theorem bW.heap {m:List Blk} {j b:Nat} {F:Heap} {L:List (Value × Value)} (hj:m[j]?=some (hpB F)) (h:F.o b (aS L)):bW m b L:=fun w hm=>(hm.holds _ (List.mem_of_getElem? hj)).2.2 b _ h
theorem NMap.look_some {t kt et:TypeId} {ok:Value→Prop} {m:List Blk} {K:AV→List Blk→Prop} {b i:Nat} {L:List (Value × Value)} {k v:Value} {c:Bool} {x:AV} (hu:P.underlying t=some (.map kt et)) (hT:fM P kt ok) (hb:bW m b L) (hL:∀ q∈L,ok q.1) (hk:ok k)
  (hi:bV L k (some (i,v))) (hx:x.den=v) (hK:K (if c then .tup [x,.bool true] else x) m):NMap P (Instr.lookup t (.map (some b)) k c) m K:=by
 refine NMap.read (r:=if c then .tup [x,.bool true] else x) (fun w hm=>?_) hK
 have hf:=be hT hL hk hi w
 have hb:=hb w hm
 unfold aS at hb
 simp only [Instr.lookup,Sem.run_bind,run_underlying hu,Result.andThen_ok,bL hb,Sem.run_pure]
 rw [hT.check _ k w hk]
 simp only [Result.andThen_ok,hf,Sem.run_bind,Sem.run_pure]
 cases c
 ·simp [hx]
 ·simp [AV.den,denL,hx]
theorem NMap.look_none {t kt et:TypeId} {ok:Value→Prop} {m:List Blk} {K:AV→List Blk→Prop} {b:Nat} {L:List (Value × Value)} {k:Value} {c:Bool} {z:AV} (hu:P.underlying t=some (.map kt et)) (hz:zeroT P et=some z) (hT:fM P kt ok) (hb:bW m b L) (hL:∀ q∈L,ok q.1) (hk:ok k)
  (hi:∀ q∈L,q.1≠k) (hK:K (if c then .tup [z,.bool false] else z) m):NMap P (Instr.lookup t (.map (some b)) k c) m K:=by
 refine NMap.read (r:=if c then .tup [z,.bool false] else z) (fun w hm=>?_) hK
 have hf:=be hT hL hk (r:=none) hi w
 have hb:=hb w hm
 unfold aS at hb
 simp only [Instr.lookup,Sem.run_bind,run_underlying hu,Result.andThen_ok,bL hb,Sem.run_pure]
 rw [hT.check _ k w hk]
 simp only [Result.andThen_ok,hf,Sem.run_bind,Sem.run_pure,dX hz]
 cases c
 ·simp
 ·simp [AV.den,denL]
theorem NMap.entry_old {t kt et:TypeId} {ok:Value→Prop} {m:List Blk} {K:AV→List Blk→Prop} {j b i:Nat} {L:List (Value × Value)} {k v:Value} {x:AV} (hu:P.underlying t=some (.map kt et)) (hT:fM P kt ok) (hj:m[j]?=some (aa b L)) (hL:∀ q∈L,ok q.1) (hk:ok k)
  (hi:bV L k (some (i,v))) (hx:x.den=v) (hK:setBlkK m j (aa b L) (K (.tup [x,.int .i64 i]))):NMap P (Instr.mapEntry t (.map (some b)) k) m K:=by
 have hK:=(aX hK).2
 refine NMap.put (o:=aS L) (o':=aS L) (r:=.tup [x,.int .i64 i]) hj (fun w hb hm=>⟨w,.inl rfl,?_⟩) hK
 have hf:=be hT hL hk hi w
 have hi':(mapL L).toArray[i]?=some ⟨k,v,i⟩:=by rw [List.getElem?_toArray,am,hi.1];rfl
 have hm':((mapL L).toArray.modify i fun e=>{ e with key:=k })=(mapL L).toArray:=by
  apply Array.ext_getElem?
  intro n
  rw [Array.getElem?_modify]
  split
  ·rename_i e
   subst e
   rw [hi']
   rfl
  ·rfl
 unfold aS at hb ⊢
 simp only [Instr.mapEntry,Sem.run_bind,run_underlying hu,Result.andThen_ok,bL hb]
 rw [hT.check _ k w hk]
 simp only [Result.andThen_ok,hf,Sem.run_bind,Sem.run_pure,hi',Option.map_some,Option.getD_some,Instr.keyThatStays,hT.bits k hk,if_true,hm',dH hb,AV.den,denL,hx]
 rfl
theorem NMap.entry_new {t kt et:TypeId} {ok:Value→Prop} {m:List Blk} {K:AV→List Blk→Prop} {j b:Nat} {L:List (Value × Value)} {k:Value} {z:AV} (hu:P.underlying t=some (.map kt et)) (hz:zeroT P et=some z) (hT:fM P kt ok) (hj:m[j]?=some (aa b L)) (hL:∀ q∈L,ok q.1) (hk:ok k)
  (hi:∀ q∈L,q.1≠k) (hK:setBlkK m j (aa b (L++[(k,z.den)])) (K (.tup [z,.int .i64 L.length]))):NMap P (Instr.mapEntry t (.map (some b)) k) m K:=by
 have hK:=(aX hK).2
 refine NMap.put (o:=aS L) (o':=aS (L++[(k,z.den)])) (r:=.tup [z,.int .i64 L.length]) hj (fun w hb hm=>⟨w,.inl rfl,?_⟩) hK
 have hf:=be hT hL hk (r:=none) hi w
 unfold aS at hb ⊢
 simp only [Instr.mapEntry,Sem.run_bind,run_underlying hu,Result.andThen_ok,bL hb]
 rw [hT.check _ k w hk]
 simp only [Result.andThen_ok,hf,Sem.run_bind,Sem.run_pure,dX hz,dH hb,AV.den,denL,im,List.length_append,List.length_cons,List.length_nil]
 rfl
theorem nX (L:List (Value × Value)) {i:Nat} (h:i<L.length):(mapL L).toArray.findIdx? (fun e=>(e.born:Int) == (i:Int))=some i:=by
 rw [List.findIdx?_toArray,List.findIdx?_eq_some_iff_getElem]
 have hl:i<(mapL L).length:=by rw [kW];exact h
 have hb:∀ j (hj:j<(mapL L).length),((mapL L)[j]).born=j:=fun j hj=>by
  have:=am L j
  rw [List.getElem?_eq_getElem hj,List.getElem?_eq_getElem (by rw [kW] at hj;exact hj)] at this
  simp only [Option.map_some,Option.some.injEq] at this
  rw [this]
 refine ⟨hl,by rw [hb i hl];simp,fun j hj=>?_⟩
 rw [hb j (by omega)]
 simp
 omega
theorem NMap.entry_store {t:TypeId} {m:List Blk} {K:AV→List Blk→Prop} {j b i:Nat} {L:List (Value × Value)} {k v v0:Value} (hj:m[j]?=some (aa b L)) (hi:L[i]?=some (k,v0)) (hK:setBlkK m j (aa b (L.set i (k,v))) (K (.raw undef))) :
  NMap P (do Instr.entryStore t (.map (some b)) (.int .i64 i) v;pure undef) m K:=by
 have hK:=(aX hK).2
 refine NMap.put (o:=aS L) (o':=aS (L.set i (k,v))) (r:=.raw undef) hj (fun w hb hm=>⟨w,.inl rfl,?_⟩) hK
 have hlt:=(List.getElem?_eq_some_iff.1 hi).1
 have hm':((mapL L).toArray.modify i fun e=>{ e with val:=v })=(mapL (L.set i (k,v))).toArray:=by
  apply Array.ext_getElem?
  intro n
  rw [Array.getElem?_modify,List.getElem?_toArray,List.getElem?_toArray,am,am,List.getElem?_set]
  by_cases e:i=n
  ·subst e
   have hk:L[i].1=k:=by
    have:=List.getElem?_eq_getElem hlt
    rw [hi] at this
    injection this with this
    rw [← this]
   simp [hlt,hk]
  ·simp [e]
 unfold aS at hb ⊢
 simp only [Instr.entryStore,Sem.run_bind,Sem.run_pure,Result.andThen_ok,bL hb,asInt,asIntOf,nX L hlt,hm',dH hb,AV.den,List.length_set]
theorem NMap.range {t kt et:TypeId} {m:List Blk} {K:AV→List Blk→Prop} {b:Nat} {L:List (Value × Value)} (hu:P.underlying t=some (.map kt et)) (hb:bW m b L) (hK:∀ c,appK m (itB c b L.length #[]) (K (.raw (.pointer (some ⟨c,0,none⟩))))):NMap P (Instr.range t (.map (some b))) m K:=by
 have hK:=fun c=>bj (hK c)
 refine NMap.new (o:=.mapIter (some b) L.length #[] L.length) (r:=fun c=>.raw (.pointer (some ⟨c,0,none⟩))) (fun w hm=>?_) hK
 have hb:=hb w hm
 unfold aS at hb
 simp only [Instr.range,Sem.run_bind,run_underlying hu,Result.andThen_ok,bL hb,Sem.run_pure]
 rfl
theorem NMap.next {m:List Blk} {K:AV→List Blk→Prop} {j b c:Nat} {seen:Array Nat} {L:List (Value × Value)} (hj:m[j]?=some (itB c b L.length seen)) (hb:bW m b L)
  (h0:(∀ i,i<L.length→seen.contains i=true)→K (.tup [.bool false]) m)
  (h1:∀ i k v,L[i]?=some (k,v)→seen.contains i=false→∃ x y:AV,x.den=k∧y.den=v∧setBlkK m j (itB c b L.length (seen.push i)) (K (.tup [.bool true,x,y]))) :
  NMap P (Instr.next (.pointer (some ⟨c,0,none⟩)) false 0) m K:=by
 rw [dM]
 intro w hm
 have hc:=hm.obj hj
 have hmb:=hb w hm
 have hborn:∀ x∈(mapL L).toArray.toList,x.born<L.length:=fun x hx=>by
  obtain ⟨i,hi⟩:=List.getElem?_of_mem hx
  rw [am] at hi
  cases hL:L[i]? with
  | none=>rw [hL] at hi;cases hi
  | some p =>
   rw [hL] at hi
   injection hi with hi
   subst hi
   exact (List.getElem?_eq_some_iff.1 hL).1
 rcases run_next_at (P:=P) w 0 c b L.length L.length seen (mapL L).toArray L.length hc hmb hborn (Nat.le_refl _) with ⟨h2,h3⟩ | ⟨e,he,w1,hw1,h3⟩
 ·refine ⟨.tup [.bool false],m,w,h3,h0 fun i hi=>?_,hm,Fr.refl _ _,Fresh.self _ _⟩
  cases hs:seen.contains i with
  | true=>rfl
  | false =>
   exfalso
   have hg:L[i]?=some L[i]:=List.getElem?_eq_getElem hi
   have:(⟨L[i].1,L[i].2,i⟩:MapEntry)∈leftOf (mapL L).toArray seen:=by
    unfold leftOf
    rw [Array.mem_filter]
    exact ⟨by rw [List.mem_toArray];exact List.mem_of_getElem? (by rw [am,hg];rfl),by simp only [hs];rfl⟩
   rw [Array.eq_empty_of_size_eq_zero h2] at this
   simp at this
 ·unfold leftOf at he
  rw [Array.mem_toList_iff,Array.mem_filter,List.mem_toArray] at he
  obtain ⟨he1,he2⟩:=he
  obtain ⟨i,hi⟩:=List.getElem?_of_mem he1
  rw [am] at hi
  cases hL:L[i]? with
  | none=>rw [hL] at hi;cases hi
  | some p =>
   rw [hL] at hi
   injection hi with hi
   subst hi
   obtain ⟨x,y,hx,hy,hK⟩:=h1 i p.1 p.2 hL (by simpa using he2)
   have hK:=(aX hK).2
   obtain ⟨h4,h5,h6⟩:=mT (.mapIter (some b) L.length (seen.push i) L.length) hm hj hw1
   refine ⟨.tup [.bool true,x,y],_,_,?_,hK,h4,h5,h6⟩
   rw [h3]
   simp [AV.den,denL,hx,hy]
theorem kX (L:List (Value × Value)):((mapL L).toArray.toList.map (·.born)).Nodup:=by
 have e:(mapL L).toArray.toList.map (·.born)=List.range L.length:=by
  apply List.ext_getElem?
  intro i
  rw [List.getElem?_map]
  show Option.map _ ((mapL L)[i]?)=_
  rw [am]
  by_cases h:i<L.length
  ·rw [List.getElem?_eq_getElem h,List.getElem?_range h];rfl
  ·rw [List.getElem?_eq_none (by omega),List.getElem?_eq_none (by rw [List.length_range];omega)];rfl
 rw [e]
 exact List.nodup_range
theorem NMap.now {m:List Blk} {K:AV→List Blk→Prop} {j b c i:Nat} {seen:Array Nat} {L:List (Value × Value)} {k v:Value} {x y:AV} (hj:m[j]?=some (itB c b L.length (seen.push i))) (hb:bW m b L) (hi:L[i]?=some (k,v)) (hx:x.den=k) (hy:y.den=v) (hK:K (.tup [x,y]) m) :
  NMap P (Instr.entry (.pointer (some ⟨c,0,none⟩))) m K:=by
 refine NMap.read (r:=.tup [x,y]) (fun w hm=>?_) hK
 have hc:=hm.obj hj
 have hmb:=hb w hm
 have:=run_entry_at (P:=P) w c b L.length seen (mapL L).toArray L.length ⟨k,v,i⟩ hc hmb (List.mem_of_getElem? (i:=i) (by show (mapL L)[i]?=_;rw [am,hi];rfl)) (kX L)
 rw [this]
 simp [AV.den,denL,hx,hy]
def ji (F:Heap) (b:Nat) (o:Obj):Heap:=⟨F.c,fun b' o'=>F.o b' o'∨(b'=b∧o'=o)⟩
theorem ji.old {F:Heap} {b:Nat} {o:Obj}:F.le (ji F b o):=⟨fun _ _ h=>h,fun _ _ h=>.inl h⟩
theorem MemFits.freezeObj {F:Heap} {b:Nat} {o:Obj} {m:List Blk}:MemFits (hpB F::⟨⟨b,0,none⟩,[],.obj o⟩::m) (hpB (ji F b o)::m):=fun w hm=>by
 have h1:=hm.holds (hpB F) (by simp)
 have h2:=hm.holds ⟨⟨b,0,none⟩,[],.obj o⟩ (by simp)
 have hs:=hm.sep
 simp only [List.pairwise_cons] at hs
 have hf:∀ c,(hpB (ji F b o)).foot c→(hpB F).foot c∨(⟨⟨b,0,none⟩,[],.obj o⟩:Blk).foot c:=by
  rintro c (⟨x,u,hu,rfl⟩ | ⟨o',ho | ⟨rfl,rfl⟩⟩)
  ·exact .inl (.inl ⟨x,u,hu,rfl⟩)
  ·exact .inl (.inr ⟨o',ho⟩)
  ·exact .inr rfl
 refine ⟨⟨fun k hk=>?_,?_⟩,fun c ⟨k,hk,hw,hb⟩=>?_,fun c ⟨k,hk,hb⟩=>?_⟩
 ·rcases List.mem_cons.1 hk with rfl | hk
  ·refine ⟨rfl,h1.2.1,fun c o' ho=>?_⟩
   rcases ho with ho | ⟨rfl,rfl⟩
   ·exact h1.2.2 c o' ho
   ·exact h2.2.2.2
  ·exact hm.holds k (List.mem_cons_of_mem _ (List.mem_cons_of_mem _ hk))
 ·refine List.pairwise_cons.2 ⟨fun k hk hw c hc hd=>?_,hs.2.2⟩
  have hkw:k.wr=true:=by
   rcases hw with hw | hw
   ·cases hw
   ·exact hw
  rcases hf c hc with hc | hc
  ·exact hs.1 k (List.mem_cons_of_mem _ hk) (.inr hkw) c hc hd
  ·exact hs.2.1 k hk (.inr hkw) c hc hd
 ·rcases List.mem_cons.1 hk with rfl | hk
  ·cases hw
  ·exact ⟨k,List.mem_cons_of_mem _ (List.mem_cons_of_mem _ hk),hw,hb⟩
 ·rcases List.mem_cons.1 hk with rfl | hk
  ·rcases hf c hb with hc | hc
   ·exact ⟨hpB F,by simp,hc⟩
   ·exact ⟨_,List.mem_cons_of_mem _ (List.mem_cons_self ..),hc⟩
  ·exact ⟨k,List.mem_cons_of_mem _ (List.mem_cons_of_mem _ hk),hb⟩
end
end Go.Sx
namespace Go.Proofs.YtmehinfgdcmmjaaGreat
open Go.Sx
set_option maxRecDepth 20000
set_option linter.unusedSimpArgs false
set_option linter.unusedVariables false
set_option maxHeartbeats 4000000
namespace Po
def sM (L:List S):List (Value × Value):=L.map fun t=>(t.key,.agg #[])
def add (L:List S) (s:S):List S:=if s∈L then L else L++[s]
def okS (v:Value):Prop:=∃ l:List Int,l.length=5∧v=gp l
theorem S.key_ok (s:S):okS s.key:=⟨[s.port,s.p0,s.p1,s.p2,s.p3],rfl,rfl⟩
theorem sM_ok {L:List S}:∀ q∈sM L,okS q.1:=fun q hq=>by
 obtain ⟨x,_,rfl⟩:=List.mem_map.1 hq
 exact x.key_ok
theorem sM_no {L:List S} {s:S} (h:s ∉ L):∀ q∈sM L,q.1≠s.key:=fun q hq e=>by
 obtain ⟨y,hy,rfl⟩:=List.mem_map.1 hq
 exact h (S.key_inj e ▸ hy)
theorem sM_at {L:List S} {s:S} (h:s∈L):∃ i,bV (sM L) s.key (some (i,.agg #[]))∧(sM L).set i (s.key,.agg #[])=sM L:=by
 induction L with
 | nil=>cases h
 | cons x L ih =>
  by_cases hx:x=s
  ·subst hx
   exact ⟨0,⟨rfl,fun j q hj _=>absurd hj (Nat.not_lt_zero _)⟩,rfl⟩
  ·obtain ⟨i,⟨h1,h2⟩,h3⟩:=ih ((List.mem_cons.1 h).resolve_left fun e=>hx e.symm)
   refine ⟨i+1,⟨by simpa [sM] using h1,fun j q hj hq=>?_⟩,by simp only [sM,List.map_cons,List.set_cons_succ];congr 1⟩
   cases j with
   | zero =>
    simp only [sM,List.map_cons,List.getElem?_cons_zero,Option.some.injEq] at hq
    subst hq
    exact fun e=>hx (S.key_inj e)
   | succ j=>exact h2 j q (by omega) (by simpa [sM] using hq)
theorem add_nodup {L:List S} (h:L.Nodup) (s:S):(add L s).Nodup:=by
 unfold add
 split
 ·exact h
 ·rename_i hn
  rw [List.nodup_append]
  refine ⟨h,by simp,fun a ha b hb e=>?_⟩
  rw [List.mem_singleton.1 hb] at e
  exact hn (e ▸ ha)
theorem mem_add {L:List S} {s t:S}:t∈add L s↔t∈L∨t=s:=by
 unfold add
 split
 ·rename_i h
  exact ⟨.inl,fun e=>e.elim id fun e=>e ▸ h⟩
 ·simp
end Po
theorem q8:fM Tryz.prog 48 Po.okS:=fM.ints (by kernel_rfl) (by kernel_rfl) (by kernel_rfl)
section
variable {t:TypeId} {m:List Blk} {K:AV→List Blk→Prop} {b j:Nat} {L:List Po.S}
theorem fF {s:Po.S} {k v:AV} (hu:Tryz.prog.underlying t=some (.map 48 238)) (hj:m[j]?=some (aa b (Po.sM L))) (hk:k.den=s.key) (hv:v.den = .agg #[]) (hK:setBlkK m j (aa b (Po.sM (Po.add L s))) (K (.raw undef))) :
  NMap Tryz.prog (do Instr.mapUpdate t (AV.raw (Value.map (some b))).den k.den v.den;pure undef) m K:=by
 rw [hk,hv,show (AV.raw (Value.map (some b))).den = .map (some b) by rw [AV.den]]
 by_cases hs:s∈L
 ·obtain ⟨i,h1,h2⟩:=Po.sM_at hs
  refine NMap.upd_old hu q8 hj Po.sM_ok s.key_ok h1 ?_
  rw [h2]
  rw [show Po.add L s=L from if_pos hs] at hK
  exact hK
 ·refine NMap.upd_new hu q8 hj Po.sM_ok s.key_ok (Po.sM_no hs) ?_
  rw [show Po.add L s=L++[s] from if_neg hs] at hK
  unfold Po.sM at hK ⊢
  rw [List.map_append] at hK
  exact hK
end
def Po.doneR (F:Heap) (b:Nat) (L:List Po.S) (R:Po.S→Prop) (r:AV) (m:List Blk):Prop:=∃ L':List Po.S,L'.Nodup∧(∀ t,t∈L'↔t∈L∨R t)∧r = .tup []∧m=[hpB F,aa b (Po.sM L')]
theorem qM (F:Heap) (p:Pd.T) (pu u:Value) (sw:Int) (hs:Pd.size p≤4611686018427387904) (hx:Po.At F (.mk 1 p 0 0 []) pu u) (s:Po.S) (b:Nat) (L:List Po.S) (hL:L.Nodup) :
  NCall Tryz.prog 177 [.raw (.map (some b)),.agg (Po.cs (.mk 1 p 0 0 []) pu u),.int .i64 sw,.agg s.av] [hpB F,aa b (Po.sM L)] fun r m=>Po.doneR F b L (fun t=>t∈Po.runs sw (.mk 1 p 0 0 []) s) r m:=by
 refine NCall.fits (K:=fun r m=>∃ L':List Po.S,L'.Nodup∧(∀ t,t∈L'↔t∈L∨t∈Po.runs sw (.mk 1 p 0 0 []) s)∧r = .tup []∧MemFits m [hpB F,aa b (Po.sM L')]) ?_ fun r m' ⟨L',h1,h2,h3,h4⟩=>⟨r,_,rfl,h4,L',h1,h2,h3,rfl⟩
 have hok:=hx.l.ok
 have hpok:=hx.p.ok
 have ch:=lG F (s.at_ sw) p pu hs hx.p
 have hr:=Po.runs_mk sw 1 p 0 0 [] s
 rw [if_pos rfl] at hr
 have hu:Tryz.prog.underlying 232=some (.map 48 238):=by kernel_rfl
 have hadd:=Po.add_nodup hL s
 have hmem:=fun t=>Po.mem_add (L:=L) (s:=s) (t:=t)
 rw [hr]
 clear hr hx
 rw [ax]
 generalize Pd.hits (s.at_ sw) p=hb at *
 obtain ⟨pk,pf,pv,pl⟩:=p
 have hkey:(AV.agg s.av).den=s.key:=rfl
 obtain ⟨a0,a,b',c,d⟩:=s
 simp only [ab,Pd.T.k,Pd.T.f,Pd.T.v,Pd.T.l,Po.S.av,Po.S.at_,Pd.At.pk] at *
 refine aA Tryz.func177 rfl (by decide) ?_
 cases hb with
 | false =>
  repeat' first|(intro K hK;(with_reducible refine gC ?_);refine cS [0] ch ?_)|(refine sxZ ?_;try clear hK K)|refine sxW ?_ ?_<;>intro _|(intro K hK _;conv=>whnf)
  all_goals exact ⟨L,hL,fun t=>by simp,rfl,MemFits.pre 2 rfl⟩
 | true =>
  repeat' first|((try intro K hK);(with_reducible refine gC ?_);refine cS [0] ch ?_)|((try intro K hK);((with_reducible refine eH ?_);refine fF (j:=1) hu rfl hkey rfl ?_;conv=>whnf))|(refine sxZ ?_;try clear hK K)|refine sxW ?_ ?_<;>intro _|(intro K hK _;conv=>whnf)|(intro _;conv=>whnf)
  all_goals exact ⟨_,hadd,fun t=>by rw [hmem];simp,rfl,MemFits.pre 2 rfl⟩
end Go.Proofs.YtmehinfgdcmmjaaGreat
