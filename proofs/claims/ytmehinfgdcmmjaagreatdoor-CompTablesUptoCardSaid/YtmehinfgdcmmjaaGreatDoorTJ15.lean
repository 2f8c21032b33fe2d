/- A part of the proof. -/
import Derived.Test.YtmehinfgdcmmjaaGreatDoorTJ1
import Derived.Test.YtmehinfgdcmmjaaGreatDoorTJ3
import Derived.Test.YtmehinfgdcmmjaaGreatDoorTJ4
import Derived.Test.YtmehinfgdcmmjaaGreatDoorTJ8
import Derived.Test.YtmehinfgdcmmjaaGreatDoorTJ11
import Derived.Test.YtmehinfgdcmmjaaGreatDoorTJ13
namespace Go.Proofs.YtmehinfgdcmmjaaGreatDoor
open Go.Sx
set_option maxRecDepth 20000
set_option linter.unusedSimpArgs false
set_option linter.unusedVariables false
set_option maxHeartbeats 4000000
theorem jp {p:Prop} {_:Decidable p} (h:p):AV.bool true = .bool (decide p):=by rw [decide_eq_true h]
theorem eX {p:Prop} {_:Decidable p} (h:¬ p):AV.bool false = .bool (decide p):=by rw [decide_eq_false h]
theorem eW {a b:List Po.S} (hl:a.length=b.length) (h:∀ j,j<a.length→a[j]?=b[j]?):a=b:=List.ext_getElem? fun j=>by
 by_cases hj:j<a.length
 ·exact h j hj
 ·rw [List.getElem?_eq_none (by omega),List.getElem?_eq_none (by omega)]
theorem oN (F:Heap) (v w:Value) (a b:List Po.S) (hv:aI F 5 (fun x vs=>vs=x.vs) v a) (hw:aI F 5 (fun x vs=>vs=x.vs) w b) (ha:a.length≤9223372036854775807) (hb:b.length≤9223372036854775807) :
  Qz Tryz.prog 13 [.hs v a.length,.hs w b.length] [hpB F] fun r m=>r = .bool (decide (a=b))∧m=[hpB F]:=by
 have hok:=hv.ok
 have hokw:=hw.ok
 refine aB Tryz.func13 rfl (by decide) ?_
 by_cases hl:a.length=b.length
 rotate_left
 ·repeat' first|(refine sxZ ?_;try clear hK K)|refine sxW ?_ ?_<;>intro _|(intro K hK _;conv=>whnf)
  exact ⟨eX (fun e=>hl (by rw [e])),rfl⟩
 repeat' first|(refine sxZ ?_;try clear hK K)|refine sxW ?_ ?_<;>intro _|(intro K hK _;conv=>whnf)
 refine aE (α:=Nat) (fun k=>k≤a.length∧∀ j,j<k→a[j]?=b[j]?) (fun k=>[.k,.k,.k,.k,.d,.set (.int .i64 k),.k,.k,.k,.k,.k,.d,.d,.d,.d,.d,.d,.d,.d,.d,.d,.d,.d,.d,.d,.d]) (fun _=>[]) (fun k=>a.length - k) 0 ⟨Nat.zero_le _,fun j hj=>absurd hj (Nat.not_lt_zero _)⟩ ?_ (Qw.eq rfl) ?_
 ·exact aD
 (intro k ⟨hk,hgone⟩;intro K hK;(conv=>whnf);refine hK _ _ ?_;clear hK K)
 by_cases hlt:k<a.length
 ·have hlt2:k<b.length:=by omega
  obtain ⟨g0,g1,g2,g3,g4⟩:=aI.get5 (f0:=fun s:Po.S=>.int .i64 s.port) (f1:=fun s=>.int .i64 s.p0) (f2:=fun s=>.int .i64 s.p1) (f3:=fun s=>.int .i64 s.p2) (f4:=fun s=>.int .i64 s.p3) hv hlt
  obtain ⟨e0,e1,e2,e3,e4⟩:=aI.get5 (f0:=fun s:Po.S=>.int .i64 s.port) (f1:=fun s=>.int .i64 s.p0) (f2:=fun s=>.int .i64 s.p1) (f3:=fun s=>.int .i64 s.p2) (f4:=fun s=>.int .i64 s.p3) hw hlt2
  have hx:a[k]?=some a[k]:=List.getElem?_eq_getElem hlt
  have hy:b[k]?=some b[k]:=List.getElem?_eq_getElem hlt2
  generalize a[k]=x at *
  generalize b[k]=y at *
  by_cases hxy:x=y
  ·subst hxy
   obtain ⟨xp,xa,xb,xc,xd⟩:=x
   dsimp only at *
   repeat' first|((first|intro A B hA hB|intro K hK|skip);first|((with_reducible refine NIf.yes ?s ?_);(case s=>simp ;done);conv=>whnf)|((with_reducible refine NIf.no ?s ?_);(case s=>simp ;done);conv=>whnf))|(refine aJ [] ?_;(try clear hK K);try clear hA hB A B)|refine sxW ?_ ?_<;>intro _|refine aK ?_ ?_|(intro K hK _;conv=>whnf)
   refine aC (k+1) ⟨hlt,fun j hj=>?_⟩ (by omega) ?_ (Qw.eq rfl)
   ·by_cases e:j=k
    ·subst e
     rw [hx,hy]
    ·exact hgone j (by omega)
   ·exact aD
  ·obtain ⟨xp,xa,xb,xc,xd⟩:=x
   obtain ⟨yp,ya,yb,yc,yd⟩:=y
   have hnb:(decide (xp=yp)&&(decide (xa=ya)&&(decide (xb=yb)&&(decide (xc=yc)&&(decide (xd=yd)&&true)))))=false:=by
    refine Bool.eq_false_iff.2 fun h=>hxy ?_
    simp only [Bool.and_eq_true,decide_eq_true_eq,and_true] at h
    obtain ⟨rfl,rfl,rfl,rfl,rfl⟩:=h
    rfl
   dsimp only at *
   repeat' first|((first|intro A B hA hB|intro K hK|skip);first|((with_reducible refine NIf.yes ?s ?_);(case s=>(rw [hnb];rfl));conv=>whnf)|((with_reducible refine NIf.no ?s ?_);(case s=>(rw [hnb];rfl));conv=>whnf))|(refine aJ [] ?_;(try clear hK K);try clear hA hB A B)|refine sxW ?_ ?_<;>intro _|refine aK ?_ ?_|(intro K hK _;conv=>whnf)
   exact ⟨eX (fun e=>hxy (by subst e;rw [hx] at hy;injection hy)),rfl⟩
 ·repeat' first|(refine sxZ ?_;try clear hK K)|refine sxW ?_ ?_<;>intro _|(intro K hK _;conv=>whnf)
  exact ⟨jp (eW hl fun j hj=>hgone j (by omega)),rfl⟩
theorem Srt.reads {F:Heap} {v:Value} {l:List Int} (h:Srt.Row F v l):(Srt.av l).length=l.length*1∧CellsF F (addrOf v) 0 (denL (Srt.av l)):=by
 rw [Srt.av_flat]
 exact ⟨by rw [Srt.av_len];omega,h.all.1⟩
theorem Srt.ones (l:List Int):Go.Sx.ones (Srt.av l)=true:=by
 induction l with
 | nil=>rfl
 | cons x l ih=>simpa [Srt.av,Go.Sx.ones] using ih
theorem Po.values_comp (f:Int) (x:Po.T):Srt.comp (Srt.sort (Po.vals f x))=Po.values f x:=Pd.comp_once _
theorem fe (f:Int) (hf : -9223372036854775808≤f∧f≤9223372036854775807):∀ (n:Nat) (F:Heap) (x:Po.T) (pu u:Value) (out:List Int) (w:Value),Po.tot x≤n→out.length+Po.tot x≤2932031007402→Po.At F x pu u →
  Qz Tryz.prog 103 [.sl 1 w out.length,.agg (Po.cs x pu u),.int .i64 f] [hpB F,⟨addrOf w,Srt.av out,.row w 3 1 out.length⟩]
   fun r m=>∃ F' w',F.le F'∧r = .sl 1 w' (out++Po.vals f x).length∧m=[hpB F',⟨addrOf w',Srt.av (out++Po.vals f x),.row w' 3 1 (out++Po.vals f x).length⟩]
 | 0,F,x,pu,u,out,w,hn,_,_=>absurd (Po.tot_pos x) (by omega)
 | n+1,F,⟨k,p,a,v,l⟩,pu,u,out,w,hn,hs,hx=>by
  refine Qz.fits (K:=fun r m=>∃ F' w',F.le F'∧r = .sl 1 w' (out++Po.vals f (.mk k p a v l)).length∧Qw m [hpB F',⟨addrOf w',Srt.av (out++Po.vals f (.mk k p a v l)),.row w' 3 1 (out++Po.vals f (.mk k p a v l)).length⟩]) ?_ fun r m' ⟨F',w',h0,h1,h2⟩=>⟨r,_,rfl,h2,F',w',h0,h1,rfl⟩
  have hu:Po.Row F u l:=hx.l
  have hpu:Pd.Row F pu p.l:=hx.p
  have hok:=hu.ok
  have hpok:=hpu.ok
  have e2:=Po.tot_mk k p a v l
  have hll:=Po.length_le l
  have ih:∀ G,∀ x∈l,∀ pA A,Po.At G x pA A→∀ (o:List Int) (w:Value),o.length+Po.tot x≤2932031007402→Qz Tryz.prog 103 [.sl 1 w o.length,.agg (Po.cs x pA A),.int .i64 f] [hpB G,⟨addrOf w,Srt.av o,.row w 3 1 o.length⟩]
    fun r m=>∃ F' w',G.le F'∧r = .sl 1 w' (o++Po.vals f x).length∧m=[hpB F',⟨addrOf w',Srt.av (o++Po.vals f x),.row w' 3 1 (o++Po.vals f x).length⟩] :=
   fun G x hx pA A hA o w ho=>fe f hf n G x pA A o w (by have:=Po.tot_lt (k:=k) (q:=p) (f:=a) (v:=v) hx;omega) ho hA
  have cv:=l4 F p pu f hf (by omega) hpu
  have hpl:=Po.pvalues_len f p
  have hol:out.length≤out.length:=Nat.le_refl _
  have hav:=Srt.av_len out
  have hfin:∀ o1,out++(if k=2∧a=f then [v] else [])++Pd.values f p=o1→out++Po.vals f (.mk k p a v l)=o1++Po.valsL f l:=fun o1 e=>by rw [Po.vals,← e];simp [List.append_assoc]
  have hvl:∀ i,(Po.valsL f (l.take i)).length≤Po.totL (l.take i):=fun i=>Po.valsL_len f _
  generalize hL:Pd.values f p=L at *
  clear hL hx
  rw [aY]
  obtain ⟨pk,pf,pv,pl⟩:=p
  simp only [pd_cs,Pd.T.k,Pd.T.f,Pd.T.v,Pd.T.l] at *
  refine aB Tryz.func103 rfl (by decide) ?_
  by_cases hk:k=2
  ·subst hk
   by_cases ha:a=f
   ·subst ha
    have hLo:=fun (F1:Heap) (v1:Value) (h:Srt.Row F1 v1 L)=>h.ok
    have hfin:=hfin (out++[v]++L) (by simp)
    rw [hfin]
    have hol1:(out++[v]++L).length=out.length+(0+1)+L.length:=by
     simp only [List.length_append,List.length_cons,List.length_nil]
    have hav1:Srt.av (out++[v]++L)=Srt.av out++Srt.av [v]++Srt.av L:=by simp only [Srt.av_append]
    clear hfin hn
    generalize ho1:out++[v]++L=o1 at *
    generalize Srt.av out=ao at *
    repeat' first|((try intro K hK);(with_reducible refine gC ?_);(refine cN [0] cv ?_;rintro _ _ ⟨F1,v1,hle1,hrow,rfl,rfl⟩;refine cR ?_))|((try intro K hK);(refine NRd.of (Srt.av L) (Srt.reads hrow).1 (Srt.reads hrow).2 ?_;conv=>whnf))|((try intro K hK);(with_reducible refine NH.mk ?s ?_);(case s=>(and_intros<;>first|with_reducible rfl|omega|(first | exact hrow.ok | exact Srt.ones _ | rfl)));conv=>whnf)|(refine sxZ ?_;try clear hK K)|refine sxW ?_ ?_<;>intro _|(intro K hK _;conv=>whnf)|(intro _;conv=>whnf)
    rename_i w2
    have e0:o1++Po.valsL a (l.take 0)=o1:=by simp [Po.valsL]
    refine aE (α:=Heap × Value × Nat) (fun (G,w,i)=>F.le G∧i≤l.length) (fun (G,w,i)=>[.set (.sl 1 w (o1++Po.valsL a (l.take i)).length),.k,.k,.k,.k,.k,.k,.k,.d,.k,.k,.k,.k,.k,.k,.k,.k,.k,.k,.k,.k,.k,.k,.k,.k,.k,.k,.k,.k,.k,.k,.k,.set (.int .i64 i),.d,.d,.d,.d,.d,.d,.d,.d,.k]) (fun (G,w,i)=>[.set (hpB G),.set ⟨addrOf w,Srt.av (o1++Po.valsL a (l.take i)),.row w 3 1 (o1++Po.valsL a (l.take i)).length⟩]) (fun (G,w,i)=>l.length - i) (F1,w2,0) ⟨hle1,Nat.zero_le _⟩ ?_ ?_ ?_
    ·dsimp only
     rw [e0,hol1]
     exact aD
    ·dsimp only
     rw [e0]
     exact Qw.congr (by simp only [autoM,hav1,hol1,List.append_nil];try rfl)
    (intro ⟨G,w,i⟩ ⟨hle,hi⟩;intro K hK;(conv=>whnf);refine hK _ _ ?_;clear hK K)
    dsimp only
    by_cases hlt:i<l.length
    ·have hx:l[i]?=some l[i]:=List.getElem?_eq_getElem hlt
     obtain ⟨pA,pcap,A,cap,hA,c0,c1,c2,c3,c4,c5,c6,c7⟩:=(Po.Row.mono hle hu).get hx
     have hAo:=hA.l.ok
     have hAp:=hA.p.ok
     have hmem:=List.mem_of_getElem? hx
     have hst:=Po.totL_take hlt
     have hle2:=Po.totL_le (l:=l) (k:=i+1)
     have hvi:=hvl i
     have hO:o1++Po.valsL a (l.take (i+1))=o1++Po.valsL a (l.take i)++Po.vals a l[i]:=by rw [Po.valsL_take _ hlt,List.append_assoc]
     have hlo:(o1++Po.valsL a (l.take i)).length=o1.length+(Po.valsL a (l.take i)).length:=List.length_append
     have c:=ih G _ hmem _ _ hA (o1++Po.valsL a (l.take i)) w (by omega)
     rw [← hO] at c
     clear ih hvl hO
     generalize l[i]=y at *
     obtain ⟨yk,⟨ypk,ypf,ypv,ypl⟩,yf,yv,yl⟩:=y
     simp only [Po.cs,Po.T.k,Po.T.p,Po.T.f,Po.T.v,Po.T.l,Pd.T.k,Pd.T.f,Pd.T.v,Pd.T.l] at c c0 c1 c2 c3 c4 c5 c6 c7 hAo hAp
     generalize o1++Po.valsL a (l.take i)=O at *
     generalize hO2:o1++Po.valsL a (l.take (i+1))=O2 at *
     repeat' first|(intro K hK;(with_reducible refine gC ?_);(refine cN [0,1] c ?_;rintro _ _ ⟨G',w',hle3,rfl,rfl⟩;refine cR ?_))|(refine sxZ ?_;try clear hK K)|refine sxW ?_ ?_<;>intro _|(intro K hK _;conv=>whnf)
     refine aC (G',w',i+1) ⟨hle.trans hle3,hlt⟩ (by show l.length - (i+1)<l.length - i;omega) ?_ (Qw.pre 4 ?_)
     ·dsimp only
      rw [hO2]
      exact aD
     ·simp only [autoM,List.take,hO2]
      try rfl
    ·have hkl:i=l.length:=by omega
     subst hkl
     rw [List.take_length]
     clear ih
     repeat' first|(refine sxZ ?_;try clear hK K)|refine sxW ?_ ?_<;>intro _|(intro K hK _;conv=>whnf)
     all_goals exact ⟨G,w,hle,rfl,Qw.pre 2 rfl⟩
   ·rw [if_neg (fun h=>ha h.2)] at hfin
    have hLo:=fun (F1:Heap) (v1:Value) (h:Srt.Row F1 v1 L)=>h.ok
    have hfin:=hfin (out++L) (by simp)
    rw [hfin]
    have hol1:(out++L).length=out.length+L.length:=by
     simp only [List.length_append,List.length_cons,List.length_nil]
    have hav1:Srt.av (out++L)=Srt.av out++Srt.av L:=by simp only [Srt.av_append]
    clear hfin hn
    generalize ho1:out++L=o1 at *
    generalize Srt.av out=ao at *
    repeat' first|((try intro K hK);(with_reducible refine gC ?_);(refine cN [0] cv ?_;rintro _ _ ⟨F1,v1,hle1,hrow,rfl,rfl⟩;refine cR ?_))|((try intro K hK);(refine NRd.of (Srt.av L) (Srt.reads hrow).1 (Srt.reads hrow).2 ?_;conv=>whnf))|((try intro K hK);(with_reducible refine NH.mk ?s ?_);(case s=>(and_intros<;>first|with_reducible rfl|omega|(first | exact hrow.ok | exact Srt.ones _ | rfl)));conv=>whnf)|(refine sxZ ?_;try clear hK K)|refine sxW ?_ ?_<;>intro _|(intro K hK _;conv=>whnf)|(intro _;conv=>whnf)
    rename_i w2
    have e0:o1++Po.valsL f (l.take 0)=o1:=by simp [Po.valsL]
    refine aE (α:=Heap × Value × Nat) (fun (G,w,i)=>F.le G∧i≤l.length) (fun (G,w,i)=>[.set (.sl 1 w (o1++Po.valsL f (l.take i)).length),.k,.k,.k,.k,.k,.k,.k,.d,.k,.k,.k,.k,.k,.k,.k,.k,.k,.k,.k,.k,.k,.k,.k,.k,.k,.k,.k,.k,.k,.k,.k,.set (.int .i64 i),.d,.d,.d,.d,.d,.d,.d,.d,.k]) (fun (G,w,i)=>[.set (hpB G),.set ⟨addrOf w,Srt.av (o1++Po.valsL f (l.take i)),.row w 3 1 (o1++Po.valsL f (l.take i)).length⟩]) (fun (G,w,i)=>l.length - i) (F1,w2,0) ⟨hle1,Nat.zero_le _⟩ ?_ ?_ ?_
    ·dsimp only
     rw [e0,hol1]
     exact aD
    ·dsimp only
     rw [e0]
     exact Qw.congr (by simp only [autoM,hav1,hol1,List.append_nil];try rfl)
    (intro ⟨G,w,i⟩ ⟨hle,hi⟩;intro K hK;(conv=>whnf);refine hK _ _ ?_;clear hK K)
    dsimp only
    by_cases hlt:i<l.length
    ·have hx:l[i]?=some l[i]:=List.getElem?_eq_getElem hlt
     obtain ⟨pA,pcap,A,cap,hA,c0,c1,c2,c3,c4,c5,c6,c7⟩:=(Po.Row.mono hle hu).get hx
     have hAo:=hA.l.ok
     have hAp:=hA.p.ok
     have hmem:=List.mem_of_getElem? hx
     have hst:=Po.totL_take hlt
     have hle2:=Po.totL_le (l:=l) (k:=i+1)
     have hvi:=hvl i
     have hO:o1++Po.valsL f (l.take (i+1))=o1++Po.valsL f (l.take i)++Po.vals f l[i]:=by rw [Po.valsL_take _ hlt,List.append_assoc]
     have hlo:(o1++Po.valsL f (l.take i)).length=o1.length+(Po.valsL f (l.take i)).length:=List.length_append
     have c:=ih G _ hmem _ _ hA (o1++Po.valsL f (l.take i)) w (by omega)
     rw [← hO] at c
     clear ih hvl hO
     generalize l[i]=y at *
     obtain ⟨yk,⟨ypk,ypf,ypv,ypl⟩,yf,yv,yl⟩:=y
     simp only [Po.cs,Po.T.k,Po.T.p,Po.T.f,Po.T.v,Po.T.l,Pd.T.k,Pd.T.f,Pd.T.v,Pd.T.l] at c c0 c1 c2 c3 c4 c5 c6 c7 hAo hAp
     generalize o1++Po.valsL f (l.take i)=O at *
     generalize hO2:o1++Po.valsL f (l.take (i+1))=O2 at *
     repeat' first|(intro K hK;(with_reducible refine gC ?_);(refine cN [0,1] c ?_;rintro _ _ ⟨G',w',hle3,rfl,rfl⟩;refine cR ?_))|(refine sxZ ?_;try clear hK K)|refine sxW ?_ ?_<;>intro _|(intro K hK _;conv=>whnf)
     refine aC (G',w',i+1) ⟨hle.trans hle3,hlt⟩ (by show l.length - (i+1)<l.length - i;omega) ?_ (Qw.pre 3 ?_)
     ·dsimp only
      rw [hO2]
      exact aD
     ·simp only [autoM,List.take,hO2]
      try rfl
    ·have hkl:i=l.length:=by omega
     subst hkl
     rw [List.take_length]
     clear ih
     repeat' first|(refine sxZ ?_;try clear hK K)|refine sxW ?_ ?_<;>intro _|(intro K hK _;conv=>whnf)
     all_goals exact ⟨G,w,hle,rfl,Qw.pre 2 rfl⟩
  ·rw [if_neg (fun h=>hk h.1)] at hfin
   have hLo:=fun (F1:Heap) (v1:Value) (h:Srt.Row F1 v1 L)=>h.ok
   have hfin:=hfin (out++L) (by simp)
   rw [hfin]
   have hol1:(out++L).length=out.length+L.length:=by
    simp only [List.length_append,List.length_cons,List.length_nil]
   have hav1:Srt.av (out++L)=Srt.av out++Srt.av L:=by simp only [Srt.av_append]
   clear hfin hn
   generalize ho1:out++L=o1 at *
   generalize Srt.av out=ao at *
   repeat' first|((try intro K hK);(with_reducible refine gC ?_);(refine cN [0] cv ?_;rintro _ _ ⟨F1,v1,hle1,hrow,rfl,rfl⟩;refine cR ?_))|((try intro K hK);(refine NRd.of (Srt.av L) (Srt.reads hrow).1 (Srt.reads hrow).2 ?_;conv=>whnf))|((try intro K hK);(with_reducible refine NH.mk ?s ?_);(case s=>(and_intros<;>first|with_reducible rfl|omega|(first | exact hrow.ok | exact Srt.ones _ | rfl)));conv=>whnf)|(refine sxZ ?_;try clear hK K)|refine sxW ?_ ?_<;>intro _|(intro K hK _;conv=>whnf)|(intro _;conv=>whnf)
   rename_i w2
   have e0:o1++Po.valsL f (l.take 0)=o1:=by simp [Po.valsL]
   refine aE (α:=Heap × Value × Nat) (fun (G,w,i)=>F.le G∧i≤l.length) (fun (G,w,i)=>[.set (.sl 1 w (o1++Po.valsL f (l.take i)).length),.k,.k,.k,.k,.k,.k,.k,.d,.k,.k,.k,.k,.k,.k,.k,.k,.k,.k,.k,.k,.k,.k,.k,.k,.k,.k,.k,.k,.k,.k,.k,.set (.int .i64 i),.d,.d,.d,.d,.d,.d,.d,.d,.k]) (fun (G,w,i)=>[.set (hpB G),.set ⟨addrOf w,Srt.av (o1++Po.valsL f (l.take i)),.row w 3 1 (o1++Po.valsL f (l.take i)).length⟩]) (fun (G,w,i)=>l.length - i) (F1,w2,0) ⟨hle1,Nat.zero_le _⟩ ?_ ?_ ?_
   ·dsimp only
    rw [e0,hol1]
    exact aD
   ·dsimp only
    rw [e0]
    exact Qw.congr (by simp only [autoM,hav1,hol1,List.append_nil];try rfl)
   (intro ⟨G,w,i⟩ ⟨hle,hi⟩;intro K hK;(conv=>whnf);refine hK _ _ ?_;clear hK K)
   dsimp only
   by_cases hlt:i<l.length
   ·have hx:l[i]?=some l[i]:=List.getElem?_eq_getElem hlt
    obtain ⟨pA,pcap,A,cap,hA,c0,c1,c2,c3,c4,c5,c6,c7⟩:=(Po.Row.mono hle hu).get hx
    have hAo:=hA.l.ok
    have hAp:=hA.p.ok
    have hmem:=List.mem_of_getElem? hx
    have hst:=Po.totL_take hlt
    have hle2:=Po.totL_le (l:=l) (k:=i+1)
    have hvi:=hvl i
    have hO:o1++Po.valsL f (l.take (i+1))=o1++Po.valsL f (l.take i)++Po.vals f l[i]:=by rw [Po.valsL_take _ hlt,List.append_assoc]
    have hlo:(o1++Po.valsL f (l.take i)).length=o1.length+(Po.valsL f (l.take i)).length:=List.length_append
    have c:=ih G _ hmem _ _ hA (o1++Po.valsL f (l.take i)) w (by omega)
    rw [← hO] at c
    clear ih hvl hO
    generalize l[i]=y at *
    obtain ⟨yk,⟨ypk,ypf,ypv,ypl⟩,yf,yv,yl⟩:=y
    simp only [Po.cs,Po.T.k,Po.T.p,Po.T.f,Po.T.v,Po.T.l,Pd.T.k,Pd.T.f,Pd.T.v,Pd.T.l] at c c0 c1 c2 c3 c4 c5 c6 c7 hAo hAp
    generalize o1++Po.valsL f (l.take i)=O at *
    generalize hO2:o1++Po.valsL f (l.take (i+1))=O2 at *
    repeat' first|(intro K hK;(with_reducible refine gC ?_);(refine cN [0,1] c ?_;rintro _ _ ⟨G',w',hle3,rfl,rfl⟩;refine cR ?_))|(refine sxZ ?_;try clear hK K)|refine sxW ?_ ?_<;>intro _|(intro K hK _;conv=>whnf)
    refine aC (G',w',i+1) ⟨hle.trans hle3,hlt⟩ (by show l.length - (i+1)<l.length - i;omega) ?_ (Qw.pre 3 ?_)
    ·dsimp only
     rw [hO2]
     exact aD
    ·simp only [autoM,List.take,hO2]
     try rfl
   ·have hkl:i=l.length:=by omega
    subst hkl
    rw [List.take_length]
    clear ih
    repeat' first|(refine sxZ ?_;try clear hK K)|refine sxW ?_ ?_<;>intro _|(intro K hK _;conv=>whnf)
    all_goals exact ⟨G,w,hle,rfl,Qw.pre 2 rfl⟩
theorem dR (F:Heap) (x:Po.T) (pu u:Value) (f:Int) (hf : -9223372036854775808≤f∧f≤9223372036854775807) (hs:Po.tot x≤2932031007402) (hx:Po.At F x pu u) :
  Qz Tryz.prog 57 [.agg (Po.cs x pu u),.int .i64 f] [hpB F] fun r m=>Srt.Lays F (Po.values f x) r m:=by
 have hln:=Po.vals_len f x
 have c1:=fe f hf _ F x pu u [] (.slice none 0 0) (Nat.le_refl _) (by simpa using hs) hx
 have c0:Qz Tryz.prog 103 [.raw (.slice none 0 0),.agg (Po.cs x pu u),.int .i64 f] [hpB F] _:=Qz.rowPre c1 rfl
 rw [List.nil_append] at c0
 clear c1
 have hv:=Po.values_comp f x
 have hsl:=Srt.sort_len (Po.vals f x)
 refine Go.Sx.Qz.know (K:=fun r m=>∃ F' v,F.le F'∧r = .raw (Srt.cutTo v (Po.values f x).length)∧Qw m [hpB F',⟨addrOf v,Srt.av (Srt.comped (Srt.sort (Po.vals f x))),.row v 3 1 (Po.vals f x).length⟩]) ?_ fun r m' ⟨F',v,hF,hr,hm⟩ ⟨w,hw⟩=>?_
 ·rw [← hv]
  have c2:=fun v=>oK v 3 (Po.vals f x) (by omega)
  have c3:=fun v=>iS v 3 (Srt.sort (Po.vals f x)) (by omega)
  rw [hsl] at c3
  generalize Srt.comped (Srt.sort (Po.vals f x))=D2 at *
  generalize (Srt.comp (Srt.sort (Po.vals f x))).length=n2 at *
  generalize Srt.av (Srt.sort (Po.vals f x))=D1 at *
  generalize Srt.av (Po.vals f x)=D0 at *
  generalize (Po.vals f x).length=n0 at *
  have hok:=hx.l.ok
  have hpok:=hx.p.ok
  clear hv hsl
  obtain ⟨k,⟨pk,pf,pv,pl⟩,a,v,l⟩:=x
  simp only [aY,Po.T.l,Po.T.p,Pd.T.k,Pd.T.f,Pd.T.v,Pd.T.l] at *
  refine aB Tryz.func57 rfl (by decide) ?_
  repeat' first|(intro K hK;(with_reducible refine gC ?_);first|(refine cN [0] c0 ?_;rintro _ _ ⟨F1,w',hle,rfl,rfl⟩;refine ⟨rfl,.sl 2 w' n0,rfl,?_⟩;conv=>whnf)|refine cS [2] (c2 _) ?_|refine cS [2] (c3 _) ?_)|(refine sxZ ?_;try clear hK K)|refine sxW ?_ ?_<;>intro _|(intro K hK _;conv=>whnf)
  all_goals exact ⟨F1,_,hle,rfl,Qw.pick [0,2] (by decide) rfl⟩
 ·have hok:=((hm w hw).1.row (List.mem_cons_of_mem _ (List.mem_cons_self ..))).1
  rw [← hsl,← Srt.comped_len] at hok
  have hrow:=aM (F:=F') (sz:=1) (enc:=Srt.V) hok (Srt.av_flat _) (fun x _=>rfl)
  obtain ⟨h1,h2⟩:=Srt.row_cut hrow
  rw [hv] at h1 h2
  exact ⟨_,_,by rw [hr];exact h2.symm,hm.trans (Qw.freeze (m:=[])),_,_,hF.trans addF.old,h1,rfl,rfl⟩
def qz (F:Heap) (q:Lx.O) (r:AV) (m:List Blk):Prop :=
 (∃ l v,q = .ok l∧Qw m [hpB F,⟨addrOf v,l.flatMap Lx.tokC,.row v 189 4 l.length⟩]∧r.den=(AV.tup [.sl 1 v l.length,.int .i64 0,.int .i64 0]).den) ∨
 (∃ at_ e:Int,q = .bad at_ e∧Qw m [hpB F]∧r = .tup [.raw (.slice none 0 0),.int .i64 at_,.int .i64 e])
theorem qI (F:Heap) (tx:List UInt8) (hs:tx.length≤4000):Qz Tryz.prog 125 [.str tx] [hpB F] (qz F (Lx.all tx)):=by
 refine aB Tryz.func125 rfl (by decide) ?_
 have h0:Lx.all tx=Lx.run tx (tx.length - 0+1) 0 []:=rfl
 generalize Lx.all tx=q at *
 repeat' first|(refine sxZ ?_;try clear hK K)|refine sxW ?_ ?_<;>intro _|(intro K hK _;conv=>whnf)
 rename_i b0
 refine aE (α:=Nat × List Lx.T × Value) (fun x=>x.1≤tx.length∧x.2.1.length≤500∧q=Lx.run tx (tx.length - x.1+1) x.1 x.2.1) (fun x=>[.k,.k,.d,.d,.d,.k,.set (.sl 2 x.2.2 x.2.1.length),.d,.d,.k,.k,.k,.k,.k,.k,.d,.d,.d,.d,.d,.d,.d,.d,.d,.d,.d,.d,.d,.d,.d,.d,.d,.d,.d,.d,.d,.d,.d,.d,.d,.d,.d,.d,.d,.d,.d,.d,.d,.d,.d,.d,.d]) (fun x=>[.k,.set (LB ⟨b0,0,none⟩ tx x.1),.set ⟨addrOf x.2.2,x.2.1.flatMap Lx.tokC,.row x.2.2 189 4 x.2.1.length⟩]) (fun x=>tx.length - x.1) (0,[],.slice none 0 0) ⟨Nat.zero_le _,Nat.zero_le _,h0⟩ ?_ (Qw.nilRow _ _ _) ?_
 ·exact aD
 (intro ⟨i,out,v⟩ hst;intro K hK;(conv=>whnf);refine hK _ _ ?_;clear hK K)
 dsimp only at hst ⊢
 obtain ⟨hi,hfew,hq⟩:=hst
 obtain ⟨hd,hle,hle2⟩:=Lx.drop_sk tx i hi
 have hsk:=oL ⟨b0,0,none⟩ tx i hi (by omega)
 have hol:=Lx.tokC_len out
 rw [Lx.run] at hq
 generalize Lx.sk tx i=j at *
 by_cases hj:j=tx.length
 ·rw [if_pos hj] at hq
  subst hj
  repeat' first|(intro K hK;(with_reducible refine gC ?_);refine cS [1] hsk ?_)|(refine sxZ ?_;try clear hK K)|refine sxW ?_ ?_<;>intro _|(intro K hK _;conv=>whnf)
  rename_i b9 v2
  all_goals
   refine .inl ⟨_,v2,hq,Qw.pick [0,2] (by decide) ?_,?_⟩
   ·rw [List.flatMap_append,List.length_append]
    rfl
   ·simp only [AV.den,denL,aw,List.length_append,List.length_cons,List.length_nil]
 ·rw [if_neg hj] at hq
  have hjl:j<tx.length:=by omega
  have hnx:=oa ⟨b0,0,none⟩ tx j hjl (by omega)
  cases hn:Lx.nextB (tx.drop j) with
  | none =>
   rw [hn] at hq
   have hnx:=hnx.mono (K':=fun r m=>r = .tup [bO 0 0 [] j,.bool false]∧∃ q,Qw m [LB ⟨b0,0,none⟩ tx q]) fun r m h=>h.2 hn
   have hnx:Qz Tryz.prog 171 [.ptr 0 ⟨b0,0,none⟩ 0] [LB ⟨b0,0,none⟩ tx j] fun r m=>r = .tup [bO 0 0 [] j,.bool false]∧∃ q,m=[LB ⟨b0,0,none⟩ tx q]:=hnx.fits fun r m h=>by
    obtain ⟨h1,q,h2⟩:=h
    exact ⟨r,_,rfl,h2,h1,q,rfl⟩
   unfold bO at hnx
   repeat' first|(intro K hK;(with_reducible refine gC ?_);first|refine cS [1] hsk ?_|(refine cN [1] hnx ?_;rintro _ _ ⟨rfl,q,rfl⟩;refine cR ?_))|(refine sxZ ?_;try clear hK K)|refine sxW ?_ ?_<;>intro _|(intro K hK _;conv=>whnf)
   all_goals exact .inr ⟨_,_,hq,Qw.pick [0] (by decide) rfl,rfl⟩
  | some bn =>
   obtain ⟨b,n⟩:=bn
   have hp:=Lx.nextB_pos hn
   rw [List.length_drop] at hp
   rw [hn] at hq
   dsimp only at hq
   have hnx:Qz Tryz.prog 171 [.ptr 0 ⟨b0,0,none⟩ 0] [LB ⟨b0,0,none⟩ tx j] fun r m=>r = .tup [bO b.k b.n b.s j,.bool true]∧m=[LB ⟨b0,0,none⟩ tx (j+n)]:=hnx.fits fun r m h=>by
    obtain ⟨h5,h6⟩:=h.1 b n hn
    exact ⟨r,_,rfl,h6,h5,rfl⟩
   unfold bO at hnx
   by_cases hf:out.length=500
   ·rw [if_pos hf] at hq
    repeat' first|(intro K hK;(with_reducible refine gC ?_);first|refine cS [1] hsk ?_|refine cS [1] hnx ?_)|(refine sxZ ?_;try clear hK K)|refine sxW ?_ ?_<;>intro _|(intro K hK _;conv=>whnf)
    all_goals exact .inr ⟨_,_,hq,Qw.pick [0] (by decide) rfl,rfl⟩
   ·rw [if_neg hf,Lx.run_more tx _ (tx.length - (j+n)+1) _ _ (by omega) (by omega) (by omega)] at hq
    repeat' first|(intro K hK;(with_reducible refine gC ?_);first|refine cS [1] hsk ?_|refine cS [1] hnx ?_)|(refine sxZ ?_;try clear hK K)|refine sxW ?_ ?_<;>intro _|(intro K hK _;conv=>whnf)
    rename_i v2
    refine aC (j+n,out++[⟨b.k,b.n,b.s,j⟩],v2) ⟨by dsimp only;omega,by dsimp only;simp;omega,hq⟩ (by dsimp only;omega) ?_ (Qw.trans (Qw.pre 3 rfl) (Qw.eq ?_))
    ·exact aD
    ·rw [List.flatMap_append,List.length_append]
     rfl
theorem od (F:Heap) (tx:List UInt8) (hs:tx.length≤4000):Qz Tryz.prog 125 [.str tx] [hpB F] fun r m =>
  (∃ l F' v,Lx.all tx = .ok l∧F.le F'∧m=[hpB F']∧r = .tup [.hs v l.length,.int .i64 0,.int .i64 0]∧aI F' 4 (fun x vs=>vs=Lx.tokV x) v l) ∨
  (∃ at_ e:Int,Lx.all tx = .bad at_ e∧m=[hpB F]∧r = .tup [.hs (.slice none 0 0) 0,.int .i64 at_,.int .i64 e]):=by
 refine Go.Sx.Qz.know (qI F tx hs) fun r m' h ⟨w,hw⟩=>?_
 rcases h with ⟨l,v,hq,hm,hr⟩ | ⟨at_,e,hq,hm,hr⟩
 ·obtain ⟨hok,_,hsl⟩:=(hm w hw).1.row (List.mem_cons_of_mem _ (List.mem_singleton.2 rfl))
  refine ⟨.tup [.hs v l.length,.int .i64 0,.int .i64 0],_,?_,hm.trans (Qw.freeze (m:=[])),.inl ⟨l,_,v,hq,addF.old,rfl,rfl,aM hok (Lx.tokC_den _) (fun x _=>rfl)⟩⟩
  rw [hr];rfl
 ·exact ⟨.tup [.hs (.slice none 0 0) 0,.int .i64 at_,.int .i64 e],_,by rw [hr];rfl,hm,.inr ⟨at_,e,hq,rfl,rfl⟩⟩
end Go.Proofs.YtmehinfgdcmmjaaGreatDoor
