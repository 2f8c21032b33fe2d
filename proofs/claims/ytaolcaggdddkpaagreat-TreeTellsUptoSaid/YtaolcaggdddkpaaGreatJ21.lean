import Derived.Test.YtaolcaggdddkpaaGreatJ2
import Derived.Test.YtaolcaggdddkpaaGreatJ6
import Derived.Test.YtaolcaggdddkpaaGreatJ17
import Derived.Test.YtaolcaggdddkpaaGreatJ18
import Derived.Test.YtaolcaggdddkpaaGreatJ19
import Derived.Test.YtaolcaggdddkpaaGreatJ20
namespace Go.Proofs.YtaolcaggdddkpaaGreat
open Go.Sx
set_option maxRecDepth 20000
set_option linter.unusedSimpArgs false
set_option linter.unusedVariables false
set_option maxHeartbeats 4000000
namespace Po
structure L where
 x:T
 pu:Value
 u:Value
def psC (ps:List L):List AV:=ps.flatMap fun p=>cs p.x p.pu p.u
def psV (p:L):List Value:=denL (cs p.x p.pu p.u)
theorem psC_den:∀ ps,denL (psC ps)=ps.flatMap psV
 | []=>rfl
 | p::ps=>by
  have:=psC_den ps
  unfold psC at *
  rw [List.flatMap_cons,List.flatMap_cons,denL_append,this]
  rfl
theorem psC_len (ps:List L):(psC ps).length=ps.length*8:=by
 induction ps with
 | nil=>rfl
 | cons p ps ih =>
  unfold psC at *
  rw [List.flatMap_cons,List.length_append,ih,List.length_cons]
  show 8+_=_
  omega
theorem psC_next (ps:List L) (p:L):psC (ps++[p])=psC ps++cs p.x p.pu p.u:=by
 unfold psC
 rw [List.flatMap_append]
 simp
def Got (F:Heap) (t:TypeId) (X:T) (v:AV) (m:List Blk):Prop :=
 ∃ G pu u,∃ ps:List L,F.le G∧ps.map (·.x)=X.l∧(∀ p∈ps,At G p.x p.pu p.u)∧Pd.Row G pu X.p.l∧v.den=(AV.agg (cs X pu u)).den∧MemFits m [hpB G,⟨addrOf u,psC ps,.row u t 8 ps.length⟩]
theorem row_of {G:Heap} {u:Value} {ps:List L} (h:RowF G 8 (fun p vs=>vs=psV p) u ps) (hall:∀ p∈ps,At G p.x p.pu p.u):Row G u (ps.map (·.x)):=by
 refine ⟨by rw [List.length_map];exact h.ok,fun k x hx=>?_⟩
 rw [List.getElem?_map] at hx
 cases hp:ps[k]? with
 | none=>rw [hp] at hx;cases hx
 | some p =>
  rw [hp] at hx
  simp only [Option.map_some,Option.some.injEq] at hx
  subst hx
  obtain ⟨vs,h1,h2,h3⟩:=h.at_ k p hp
  have hr:=hall p (List.mem_of_getElem? hp)
  refine ⟨vs,?_,h2,h3⟩
  obtain ⟨A,cap,hv,hle,hz⟩:=hr.l.ok
  obtain ⟨pA,pcap,hpv,hple,hpz⟩:=hr.p.ok
  rw [h1]
  obtain ⟨x,pw,w⟩:=p
  dsimp only at hv hpv hr ⊢
  subst hv hpv
  exact R.of hr
abbrev Lays (F:Heap) (X:T) (r:AV) (m:List Blk):Prop:=∃ F' pu u,F.le F'∧At F' X pu u∧r = .agg (cs X pu u)∧m=[hpB F']
theorem got_know {f:FuncId} {args:List AV} {F:Heap} {t:TypeId} {m:List Blk} {X:T} (h:NCall Tryz.prog f args m fun v m'=>Got F t X v m') :
  NCall Tryz.prog f args m fun v m'=>Lays F X v m':=by
 refine Go.Sx.NCall.know h fun r m' ⟨G,pu,u,ps,hle,hmap,hall,hpr,hr,hm⟩ ⟨w,hw⟩=>?_
 have hok:=((hm w hw).1.row (List.mem_cons_of_mem _ (List.mem_cons_self ..))).1
 have hrow:=rowF_new (F:=G) (sz:=8) (enc:=psV) hok (psC_den ps) (fun x _=>rfl)
 refine ⟨_,_,hr.symm,hm.trans (MemFits.freeze (m:=[])),_,pu,u,hle.trans addF.old,⟨Pd.Row.mono addF.old hpr,?_⟩,rfl,rfl⟩
 rw [← hmap]
 exact row_of hrow fun p hp=>At.mono addF.old (hall p hp)
end Po
theorem mine27_c:∀ (n:Nat) (F:Heap) (x:Po.T) (pu u:Value),Po.tot x≤n→Po.tot x≤1466015503701→Po.At F x pu u →
  NCall Tryz.prog 9 [.agg (Po.cs x pu u)] [hpB F] fun r m=>Po.Lays F x r m
 | 0,F,x,pu,u,hn,_,_=>absurd (Po.tot_pos x) (by omega)
 | n+1,F,⟨k,p,f,v,l⟩,pu,u,hn,hs,hx=>by
  refine Po.got_know (t:=41) ?_
  have hu:Po.Row F u l:=hx.l
  have hpu:Pd.Row F pu p.l:=hx.p
  have hok:=hu.ok
  have hpok:=hpu.ok
  have e2:=Po.tot_mk k p f v l
  have hll:=Po.length_le l
  have ih:∀ G,∀ y∈l,∀ pw w,Po.At G y pw w→NCall Tryz.prog 9 [.agg (Po.cs y pw w)] [hpB G] fun r m=>Po.Lays G y r m:=fun G y hy pw w hw=>mine27_c n G y pw w (by have:=Po.tot_lt (k:=k) (q:=p) (f:=f) (v:=v) hy;omega) (by have:=Po.tot_lt (k:=k) (q:=p) (f:=f) (v:=v) hy;omega) hw
  have cp:=mine26_c _ F p pu (Nat.le_refl _) (by omega) hpu
  have hln:l.length≤1466015503701:=by omega
  clear hx hs hn e2 hll
  rw [po_cs]
  obtain ⟨pk,pf,pv,pl⟩:=p
  simp only [Pd.Lays,pd_cs,Pd.T.k,Pd.T.f,Pd.T.v,Pd.T.l] at *
  refine ncall_of Tryz.func9 rfl (by decide) ?_
  (repeat' (first|(with_reducible first|(refine hK _ _ ?_;clear hK K)|(refine hK _ ?_;clear hK K))|((with_reducible refine z25 ?_);intro K hK;(conv=>whnf))|(with_reducible refine z0 ?_)|((first|(with_reducible refine NN.a5 ?_)|((with_reducible refine NH.mk ?s ?_);case s=>(and_intros<;>first|with_reducible rfl|((with_reducible refine gOnes ?_);rfl)|((with_reducible refine gLen ?_);rfl)|((with_reducible refine gKept ?_);exact rfl)|rfl))|((with_reducible refine NCall.isF 29 ?_);refine NCall.subw [0] _ _ (cp) rfl (by decide) rfl ?_;rintro _ _ ⟨F1,pu1,hle1,hpu1,rfl,rfl⟩;refine ⟨Nat.le_of_ble_eq_true rfl,_,rfl,?_⟩))<;>(conv=>whnf))|(with_reducible refine st_ordSout ?_)|((with_reducible refine gNOK ?_);(first|(refine st_ordK1 rfl (by kernel_rfl) rfl ?_;intro K hK;(conv=>whnf))|refine st_ordK0 rfl (by kernel_rfl) ?_|refine st_ordKA rfl rfl (by kernel_rfl) (by intro h;cases h) ?_))|((with_reducible refine gNEK ?_);(first|(refine st_eachK ?_ ?_;(intro K hK;(conv=>whnf)))|exact st_eachK0))|((with_reducible refine gX ?_);(first|refine st_orderS [0,3] rfl rfl (by kernel_rfl) _ rfl ?_|(with_reducible first|refine z3 ?_|refine z4 ?_|refine z5 ?_)))|(with_reducible first|refine z1 ?_|refine z2 ?_)|((with_reducible refine gF ?_);(refine z33 rfl ?_;intro K hK;(conv=>whnf)))|((intro _;skip)<;>(conv=>whnf))))
  all_goals
   have hpok1:=hpu1.ok
   refine st_auto (α:=Heap × Value × List Po.L) (fun (G,w,ps)=>F1.le G∧ps.map (·.x)=l.take ps.length∧ps.length≤l.length∧∀ p∈ps,Po.At G p.x p.pu p.u) (fun (G,w,ps)=>[.keep,.keep,.keep,.keep,.set (.int .i64 ps.length),.keep,.keep,.keep,.keep,.keep,.keep,.keep,.keep,.keep,.keep,.drop,.drop,.drop,.drop,.drop,.drop,.drop,.drop,.drop,.drop,.drop,.drop,.drop,.drop,.drop,.drop,.drop,.drop,.keep])
    (fun (G,w,ps)=>[.set (hpB G),.keep,.keep,.cells [.int .i64 k,.int .i64 pk,.int .i64 pf,.int .i64 pv,.hs pu1 pl.length,.int .i64 f,.int .i64 v,.sl 4 w ps.length],.set ⟨addrOf w,Po.psC ps,.row w 41 8 ps.length⟩]) (fun (G,w,ps)=>l.length - ps.length) (F1,.slice none 0 0,[]) ⟨F1.le_refl,rfl,Nat.zero_le _,fun p hp=>by simp at hp⟩ ?_ ((MemFits.nilRow _ 41 8).trans (MemFits.congr rfl)) ?_
   ·repeat (first|exact FitsSl.nil|refine FitsSl.any ?_|refine FitsSl.cons (Fit1.int (by first | rfl | omega)) ?_|refine FitsSl.cons (Fit1.same (by intro h;cases h) (by with_reducible rfl)) ?_)
   (intro ⟨G,w,ps⟩ ⟨hle,hmap,hlen,hall⟩;intro K hK;(conv=>whnf);refine hK _ _ ?_;clear hK K)
   dsimp only
   generalize hk:ps.length=i at *
   by_cases hlt:i<l.length
   ·have hx:l[i]?=some l[i]:=List.getElem?_eq_getElem hlt
    obtain ⟨pA,pcap,A,cap,hA,c0,c1,c2,c3,c4,c5,c6,c7⟩:=(Po.Row.mono (hle1.trans hle) hu).get hx
    have hAo:=hA.l.ok
    have hAp:=hA.p.ok
    have hmem:=List.mem_of_getElem? hx
    have c:=ih G _ hmem _ _ hA
    have hnx:l.take (i+1)=l.take i++[l[i]]:=by rw [List.take_add_one,hx];rfl
    clear ih
    generalize l[i]=y at *
    have hpl:=Po.psC_len ps
    have hpn:=Po.psC_next ps
    generalize hpc:Po.psC ps=pc at *
    obtain ⟨yk,⟨ypk,ypf,ypv,ypl⟩,yf,yv,yl⟩:=y
    simp only [Po.Lays,Po.cs,Po.T.k,Po.T.p,Po.T.f,Po.T.v,Po.T.l,Pd.T.k,Pd.T.f,Pd.T.v,Pd.T.l] at c c0 c1 c2 c3 c4 c5 c6 c7 hAo hAp
    (repeat' (first|(with_reducible first|(refine hK _ _ ?_;clear hK K)|(refine hA ?_;clear hA hB A B)|(refine hK _ ?_;clear hK K))|((with_reducible refine z25 ?_);intro K hK;(conv=>whnf))|(with_reducible refine z0 ?_)|((first|((with_reducible refine NV.i64 ?s ?_);case s=>omega)|((with_reducible refine NIf.decY ?s ?_);case s=>omega)|(with_reducible first|refine NN.cast ?_|refine NN.a5 ?_|refine NN.keep ?_)|((with_reducible refine NH.mk ?s ?_);case s=>(and_intros<;>first|with_reducible rfl|((with_reducible refine gOnes ?_);rfl)|((with_reducible refine gLen ?_);rfl)|omega))|((with_reducible refine NCall.isF 9 ?_);refine NCall.subw [0] _ _ (c) rfl (by decide) rfl ?_;rintro _ _ ⟨G',pw',w',hle2,hrow,rfl,rfl⟩;refine ⟨Nat.le_of_ble_eq_true rfl,_,rfl,?_⟩)|(with_reducible refine NLd.of (by with_reducible assumption) ?_))<;>(conv=>whnf))|((with_reducible refine gNO ?_);(first|(refine z36 rfl (by kernel_rfl) ?_;intro K hK;(conv=>whnf))|refine z38 rfl (by kernel_rfl) ?_|refine z39 rfl rfl (by kernel_rfl) (by intro h;cases h) ?_))|((with_reducible refine gNE ?_);(first|(refine z40 ?_ ?_;(intro K hK;(conv=>whnf)))|exact z42))|((with_reducible refine gX ?_);(first|refine z35 (by kernel_rfl) _ rfl ?_|(with_reducible first|refine z3 ?_|refine z4 ?_|refine z5 ?_|refine z6 ?_)|((with_reducible refine z29 ?_);intro A B hA hB;(conv=>whnf))))|(with_reducible first|refine z1 ?_|refine z2 ?_|refine z9 ?_)|((intro _;skip)<;>(conv=>whnf))))
    all_goals
     rename_i v9
     refine st_round (G',v9,ps++[⟨.mk yk (.mk ypk ypf ypv ypl) yf yv yl,pw',w'⟩]) ⟨hle.trans hle2,by rw [List.map_append,hmap,List.length_append,hk];exact hnx.symm,by rw [List.length_append,hk];exact hlt,fun x hx=>?_⟩ (by rw [List.length_append,hk];show l.length - (i+1)<l.length - i;omega) ?_ (MemFits.pre 5 ?_)
     ·rcases List.mem_append.1 hx with hx | hx
      ·exact Po.At.mono hle2 (hall x hx)
      ·rw [List.mem_singleton.1 hx];exact hrow
     ·simp only [List.length_append,hk]
      repeat (first|exact FitsSl.nil|refine FitsSl.any ?_|refine FitsSl.cons (Fit1.int (by first | rfl | omega)) ?_|refine FitsSl.cons (Fit1.same (by intro h;cases h) (by with_reducible rfl)) ?_)
     ·simp only [autoM,List.take,List.length_append,hk,hpn]
      rw [show i+[(⟨.mk yk (.mk ypk ypf ypv ypl) yf yv yl,pw',w'⟩:Po.L)].length=i+1 from rfl]
      rfl
   ·have hkl:i=l.length:=by omega
    subst hkl
    clear ih cp
    (repeat' (first|(with_reducible first|(refine hK _ _ ?_;clear hK K)|(refine hB ?_;clear hA hB A B)|(refine hK _ ?_;clear hK K))|((with_reducible refine z25 ?_);intro K hK;(conv=>whnf))|(with_reducible refine z0 ?_)|((first|((with_reducible refine NIf.decN ?s ?_);case s=>omega)|(with_reducible refine NN.a5 ?_)|((with_reducible refine NH.mk ?s ?_);case s=>(and_intros<;>first|with_reducible rfl|((with_reducible refine gOnes ?_);rfl)|((with_reducible refine gLen ?_);rfl)|omega)))<;>(conv=>whnf))|(with_reducible first|refine z3 ?_|refine z4 ?_|refine z7 ?_|refine z8 ?_)|((with_reducible refine z29 ?_);intro A B hA hB;(conv=>whnf))|(with_reducible first|refine z1 ?_|refine z2 ?_|refine z10 ?_|refine z11 ?_|refine z19 ?_)|((with_reducible refine gR ?_);(refine z31 rfl ?_;intro K hK;(conv=>whnf)))))
    all_goals exact ⟨G,pu1,w,ps,hle1.trans hle,by rw [hmap,List.take_length];rfl,hall,Pd.Row.mono hle hpu1,rfl,by rw [hk];exact MemFits.pick [0,4] (by decide) rfl⟩
theorem has27_c (F:Heap) (f w:Int) (hf : -9223372036854775808≤f∧f≤9223372036854775807):∀ (n:Nat) (x:Po.T) (pu u:Value),Po.tot x≤n→Po.tot x≤4611686018427387904→Po.At F x pu u →
  NCall Tryz.prog 48 [.agg (Po.cs x pu u),.int .i64 f,.int .i64 w] [hpB F] fun r m=>r = .bool (decide (w∈Po.vals f x))∧m=[hpB F]
 | 0,x,pu,u,hn,_,_=>absurd (Po.tot_pos x) (by omega)
 | n+1,⟨k,p,a,v,l⟩,pu,u,hn,hs,hx=>by
  refine NCall.fits (K:=fun r m=>r = .bool (decide (w∈Po.vals f (.mk k p a v l)))∧MemFits m [hpB F]) ?_ fun r m' h=>⟨r,_,rfl,h.2,h.1,rfl⟩
  have hu:Po.Row F u l:=hx.l
  have hpu:Pd.Row F pu p.l:=hx.p
  have hok:=hu.ok
  have hpok:=hpu.ok
  have e2:=Po.tot_mk k p a v l
  have hll:=Po.length_le l
  have ih:∀ y∈l,∀ pA A,Po.At F y pA A→NCall Tryz.prog 48 [.agg (Po.cs y pA A),.int .i64 f,.int .i64 w] [hpB F] fun r m=>r = .bool (decide (w∈Po.vals f y))∧m=[hpB F] :=
   fun y hy pA A hA=>has27_c F f w hf n y pA A (by have:=Po.tot_lt (k:=k) (q:=p) (f:=a) (v:=v) hy;omega) (by have:=Po.tot_lt (k:=k) (q:=p) (f:=a) (v:=v) hy;omega) hA
  have ca:=asks26_c F f w hf _ p pu (Nat.le_refl _) (by omega) hpu
  have hln:l.length≤4611686018427387904:=by omega
  have e:(w∈Po.vals f (.mk k p a v l))↔(k=2∧a=f∧v=w)∨w∈Pd.vals f p∨w∈Po.valsL f l:=by
   rw [Po.vals,List.mem_append,List.mem_append,Pd.values_mem,or_assoc]
   refine or_congr ?_ Iff.rfl
   split
   ·rename_i h
    rw [List.mem_singleton]
    exact ⟨fun e=>⟨h.1,h.2,e.symm⟩,fun e=>e.2.2.symm⟩
   ·rename_i h
    simp only [List.not_mem_nil,false_iff]
    exact fun e=>h ⟨e.1,e.2.1⟩
  have e':decide (w∈Po.vals f (.mk k p a v l))=decide ((k=2∧a=f∧v=w)∨w∈Pd.vals f p∨w∈Po.valsL f l):=decide_eq_decide.2 e
  rw [e']
  clear e e' hx hs hn e2 hll
  rw [po_cs]
  obtain ⟨pk,pf,pv,pl⟩:=p
  simp only [pd_cs,Pd.T.k,Pd.T.f,Pd.T.v,Pd.T.l] at *
  refine ncall_of Tryz.func48 rfl (by decide) ?_
  by_cases h1:k=2∧a=f∧v=w
  ·obtain ⟨rfl,rfl,rfl⟩:=h1
   clear ih
   (repeat' (first|(with_reducible first|(refine hK _ _ ?_;clear hK K)|(refine hA ?_;clear hA hB A B)|(refine hK _ ?_;clear hK K))|((with_reducible first|refine z25 ?_|refine z26 ?_);intro K hK;(conv=>whnf))|(with_reducible refine z0 ?_)|((first|((with_reducible refine NIf.yes ?s ?_);case s=>(simp ;done))|(with_reducible refine NN.a5 ?_)|((with_reducible refine NH.mk ?s ?_);case s=>(and_intros<;>with_reducible rfl)))<;>(conv=>whnf))|(with_reducible first|refine z3 ?_|refine z4 ?_|refine z8 ?_)|((with_reducible refine z29 ?_);intro A B hA hB;(conv=>whnf))|(with_reducible first|refine z1 ?_|refine z2 ?_|refine z12 ?_)|((with_reducible refine gR ?_);(refine z31 rfl ?_;intro K hK;(conv=>whnf)))|((with_reducible refine gF ?_);(refine z33 rfl ?_;intro K hK;(conv=>whnf)))|((intro _;skip)<;>(conv=>whnf))))
   all_goals exact ⟨by simp,MemFits.pre 1 rfl⟩
  by_cases hq:w∈Pd.vals f (.mk pk pf pv pl)
  ·rw [decide_eq_true hq] at ca
   clear ih
   rw [show decide (k=2∧a=f∧v=w∨w∈Pd.vals f (.mk pk pf pv pl)∨w∈Po.valsL f l)=true from decide_eq_true (.inr (.inl hq))]
   by_cases hk:k=2
   ·by_cases ha:a=f
    ·have hv:v≠w:=fun e=>h1 ⟨hk,ha,e⟩
     subst hk ha
     (repeat' (first|(with_reducible first|(refine hK _ _ ?_;clear hK K)|(refine hA ?_;clear hA hB A B)|(refine hK _ ?_;clear hK K))|((with_reducible first|refine z25 ?_|refine z26 ?_);intro K hK;(conv=>whnf))|(with_reducible refine z0 ?_)|((first|((with_reducible refine NIf.yes ?s ?_);case s=>(simp [hv];done))|((with_reducible refine NIf.no ?s ?_);case s=>(simp [hv];done))|(with_reducible refine NN.a5 ?_)|((with_reducible refine NH.mk ?s ?_);case s=>(and_intros<;>with_reducible rfl))|((with_reducible refine NCall.isF 80 ?_);refine NCall.subE [0] (ca) rfl (by decide) rfl rfl ?_))<;>(conv=>whnf))|(with_reducible first|refine z3 ?_|refine z4 ?_|refine z8 ?_)|((with_reducible refine z29 ?_);intro A B hA hB;(conv=>whnf))|(with_reducible first|refine z1 ?_|refine z2 ?_|refine z12 ?_)|((with_reducible refine gR ?_);(refine z31 rfl ?_;intro K hK;(conv=>whnf)))|((with_reducible refine gF ?_);(refine z33 rfl ?_;intro K hK;(conv=>whnf)))|((intro _;skip)<;>(conv=>whnf))))
     all_goals exact ⟨rfl,MemFits.pre 1 rfl⟩
    ·(repeat' (first|(with_reducible first|(refine hK _ _ ?_;clear hK K)|(refine hA ?_;clear hA hB A B)|(refine hK _ ?_;clear hK K))|((with_reducible first|refine z25 ?_|refine z26 ?_);intro K hK;(conv=>whnf))|(with_reducible refine z0 ?_)|((first|((with_reducible refine NIf.yes ?s ?_);case s=>(simp [ha];done))|((with_reducible refine NIf.no ?s ?_);case s=>(simp [ha];done))|((with_reducible refine NIf.decY ?s ?_);case s=>assumption)|(with_reducible refine NN.a5 ?_)|((with_reducible refine NH.mk ?s ?_);case s=>(and_intros<;>with_reducible rfl))|((with_reducible refine NCall.isF 80 ?_);refine NCall.subE [0] (ca) rfl (by decide) rfl rfl ?_))<;>(conv=>whnf))|(with_reducible first|refine z3 ?_|refine z4 ?_|refine z8 ?_)|((with_reducible refine z29 ?_);intro A B hA hB;(conv=>whnf))|(with_reducible first|refine z1 ?_|refine z2 ?_|refine z12 ?_)|((with_reducible refine gR ?_);(refine z31 rfl ?_;intro K hK;(conv=>whnf)))|((with_reducible refine gF ?_);(refine z33 rfl ?_;intro K hK;(conv=>whnf)))|((intro _;skip)<;>(conv=>whnf))))
     all_goals exact ⟨rfl,MemFits.pre 1 rfl⟩
   ·(repeat' (first|(with_reducible first|(refine hK _ _ ?_;clear hK K)|(refine hA ?_;clear hA hB A B)|(refine hK _ ?_;clear hK K))|((with_reducible first|refine z25 ?_|refine z26 ?_);intro K hK;(conv=>whnf))|(with_reducible refine z0 ?_)|((first|((with_reducible refine NIf.yes ?s ?_);case s=>(simp [hk];done))|((with_reducible refine NIf.no ?s ?_);case s=>(simp [hk];done))|(with_reducible refine NN.a5 ?_)|((with_reducible refine NH.mk ?s ?_);case s=>(and_intros<;>with_reducible rfl))|((with_reducible refine NCall.isF 80 ?_);refine NCall.subE [0] (ca) rfl (by decide) rfl rfl ?_))<;>(conv=>whnf))|(with_reducible first|refine z3 ?_|refine z4 ?_|refine z8 ?_)|((with_reducible refine z29 ?_);intro A B hA hB;(conv=>whnf))|(with_reducible first|refine z1 ?_|refine z2 ?_|refine z12 ?_)|((with_reducible refine gR ?_);(refine z31 rfl ?_;intro K hK;(conv=>whnf)))|((with_reducible refine gF ?_);(refine z33 rfl ?_;intro K hK;(conv=>whnf)))|((intro _;skip)<;>(conv=>whnf))))
    all_goals exact ⟨rfl,MemFits.pre 1 rfl⟩
  ·rw [decide_eq_false hq] at ca
   rw [show decide (k=2∧a=f∧v=w∨w∈Pd.vals f (.mk pk pf pv pl)∨w∈Po.valsL f l)=decide (w∈Po.valsL f l) from decide_eq_decide.2 ⟨fun h=>(h.resolve_left h1).resolve_left hq,fun h=>.inr (.inr h)⟩]
   by_cases hk:k=2
   ·by_cases ha:a=f
    ·have hv:v≠w:=fun e=>h1 ⟨hk,ha,e⟩
     subst hk ha
     (repeat' (first|(with_reducible first|(refine hK _ _ ?_;clear hK K)|(refine hB ?_;clear hA hB A B)|(refine hK _ ?_;clear hK K))|((with_reducible first|refine z25 ?_|refine z26 ?_);intro K hK;(conv=>whnf))|(with_reducible refine z0 ?_)|((first|((with_reducible refine NIf.yes ?s ?_);case s=>(simp [hv];done))|((with_reducible refine NIf.no ?s ?_);case s=>(simp [hv];done))|(with_reducible refine NN.a5 ?_)|((with_reducible refine NH.mk ?s ?_);case s=>(and_intros<;>with_reducible rfl))|((with_reducible refine NCall.isF 80 ?_);refine NCall.subE [0] (ca) rfl (by decide) rfl rfl ?_))<;>(conv=>whnf))|(with_reducible first|refine z3 ?_|refine z4 ?_|refine z5 ?_|refine z6 ?_)|((with_reducible refine z29 ?_);intro A B hA hB;(conv=>whnf))|(with_reducible first|refine z1 ?_|refine z2 ?_)|((with_reducible refine gF ?_);(refine z33 rfl ?_;intro K hK;(conv=>whnf)))|((intro _;skip)<;>(conv=>whnf))))
     refine st_auto (α:=Nat) (fun i=>i≤l.length∧¬ w∈Po.valsL a (l.take i)) (fun i=>[.keep,.keep,.keep,.keep,.keep,.keep,.set (.bool false),.set (.int .i64 i),.keep,.keep,.keep,.keep,.keep,.keep,.keep,.keep,.keep,.keep,.keep,.keep,.keep,.keep,.keep,.keep,.keep,.keep,.keep,.keep,.keep,.keep,.drop,.drop,.drop,.drop,.drop,.drop,.drop,.drop,.drop,.drop,.drop,.drop,.drop,.drop,.drop]) (fun _=>[]) (fun i=>l.length - i) 0 ⟨Nat.zero_le _,by simp [Po.valsL]⟩ ?_ (MemFits.eq rfl) ?_
     ·repeat (first|exact FitsSl.nil|refine FitsSl.any ?_|refine FitsSl.cons (Fit1.int (by first | rfl | omega)) ?_|refine FitsSl.cons (Fit1.bool rfl) ?_|refine FitsSl.cons (Fit1.same (by intro h;cases h) (by with_reducible rfl)) ?_)
     (intro i ⟨hi,hno⟩;intro K hK;(conv=>whnf);refine hK _ _ ?_;clear hK K)
     by_cases hlt:i<l.length
     ·have hx:l[i]?=some l[i]:=List.getElem?_eq_getElem hlt
      obtain ⟨pA,pcap,A,cap,hA,c0,c1,c2,c3,c4,c5,c6,c7⟩:=hu.get hx
      have hAo:=hA.l.ok
      have hAp:=hA.p.ok
      have hmem:=List.mem_of_getElem? hx
      have c:=ih _ hmem _ _ hA
      have hnx:=Po.valsL_take a hlt
      have hyes:w∈Po.vals a l[i]→w∈Po.valsL a l:=fun hw=>by
       have e:=Po.valsL_append a (l.take (i+1)) (l.drop (i+1))
       rw [List.take_append_drop,hnx] at e
       rw [e]
       exact List.mem_append_left _ (List.mem_append_right _ hw)
      have hnext:¬ w∈Po.vals a l[i]→¬ w∈Po.valsL a (l.take (i+1)):=fun h1 h2=>by
       rw [hnx] at h2
       rcases List.mem_append.1 h2 with h2 | h2
       ·exact hno h2
       ·exact h1 h2
      clear ih hnx ca
      generalize l[i]=y at *
      by_cases hw:w∈Po.vals a y
      ·rw [decide_eq_true hw] at c
       have hy:=hyes hw
       clear hyes hnext hw
       obtain ⟨yk,⟨ypk,ypf,ypv,ypl⟩,yf,yv,yl⟩:=y
       simp only [Po.cs,Po.T.k,Po.T.p,Po.T.f,Po.T.v,Po.T.l,Pd.T.k,Pd.T.f,Pd.T.v,Pd.T.l] at c c0 c1 c2 c3 c4 c5 c6 c7 hAo hAp
       (repeat' (first|(with_reducible first|(refine hK _ _ ?_;clear hK K)|(refine hA ?_;clear hA hB A B)|(refine hK _ ?_;clear hK K))|((with_reducible refine z25 ?_);intro K hK;(conv=>whnf))|(with_reducible refine z0 ?_)|((first|((with_reducible refine NIf.decY ?s ?_);case s=>omega)|((with_reducible refine NIf.yes ?s ?_);case s=>rfl)|(with_reducible first|refine NN.cast ?_|refine NN.a5 ?_|refine NN.keep ?_)|((with_reducible refine NH.mk ?s ?_);case s=>(and_intros<;>first|with_reducible rfl|omega))|((with_reducible refine NCall.isF 48 ?_);refine NCall.subE [0] (c) rfl (by decide) rfl rfl ?_)|(with_reducible refine NLd.of (by with_reducible assumption) ?_))<;>(conv=>whnf))|(with_reducible first|refine z3 ?_|refine z4 ?_|refine z5 ?_|refine z6 ?_|refine z8 ?_)|((with_reducible refine z29 ?_);intro A B hA hB;(conv=>whnf))|(with_reducible first|refine z1 ?_|refine z2 ?_|refine z12 ?_|refine z13 ?_|refine z20 ?_)|((with_reducible refine gR ?_);(refine z31 rfl ?_;intro K hK;(conv=>whnf)))))
       all_goals exact ⟨by rw [decide_eq_true hy],MemFits.pre 1 rfl⟩
      ·rw [decide_eq_false hw] at c
       have hy:=hnext hw
       clear hyes hnext hw
       obtain ⟨yk,⟨ypk,ypf,ypv,ypl⟩,yf,yv,yl⟩:=y
       simp only [Po.cs,Po.T.k,Po.T.p,Po.T.f,Po.T.v,Po.T.l,Pd.T.k,Pd.T.f,Pd.T.v,Pd.T.l] at c c0 c1 c2 c3 c4 c5 c6 c7 hAo hAp
       (repeat' (first|(with_reducible first|(refine hK _ _ ?_;clear hK K)|(refine hA ?_;clear hA hB A B)|(refine hB ?_;clear hA hB A B))|((with_reducible refine z25 ?_);intro K hK;(conv=>whnf))|(with_reducible refine z0 ?_)|((first|((with_reducible refine NV.i64 ?s ?_);case s=>omega)|((with_reducible refine NIf.decY ?s ?_);case s=>omega)|((with_reducible refine NIf.no ?s ?_);case s=>rfl)|(with_reducible first|refine NN.cast ?_|refine NN.a5 ?_|refine NN.keep ?_)|((with_reducible refine NH.mk ?s ?_);case s=>(and_intros<;>first|with_reducible rfl|omega))|((with_reducible refine NCall.isF 48 ?_);refine NCall.subE [0] (c) rfl (by decide) rfl rfl ?_)|(with_reducible refine NLd.of (by with_reducible assumption) ?_))<;>(conv=>whnf))|(with_reducible first|refine z3 ?_|refine z4 ?_|refine z5 ?_|refine z6 ?_)|((with_reducible refine z29 ?_);intro A B hA hB;(conv=>whnf))|(with_reducible first|refine z1 ?_|refine z2 ?_|refine z9 ?_)))
       refine st_round (i+1) ⟨hlt,hy⟩ (by omega) ?_ (MemFits.eq rfl)
       repeat (first|exact FitsSl.nil|refine FitsSl.any ?_|refine FitsSl.cons (Fit1.int (by first | rfl | omega)) ?_|refine FitsSl.cons (Fit1.bool rfl) ?_|refine FitsSl.cons (Fit1.same (by intro h;cases h) (by with_reducible rfl)) ?_)
     ·have hkl:i=l.length:=by omega
      subst hkl
      rw [List.take_length] at hno
      clear ih
      (repeat' (first|(with_reducible first|(refine hK _ _ ?_;clear hK K)|(refine hB ?_;clear hA hB A B)|(refine hK _ ?_;clear hK K))|((with_reducible refine z25 ?_);intro K hK;(conv=>whnf))|(with_reducible refine z0 ?_)|((first|((with_reducible refine NIf.decN ?s ?_);case s=>omega)|(with_reducible refine NN.a5 ?_)|((with_reducible refine NH.mk ?s ?_);case s=>(and_intros<;>first|with_reducible rfl|omega)))<;>(conv=>whnf))|(with_reducible first|refine z3 ?_|refine z4 ?_|refine z7 ?_|refine z8 ?_)|((with_reducible refine z29 ?_);intro A B hA hB;(conv=>whnf))|(with_reducible first|refine z1 ?_|refine z2 ?_|refine z10 ?_|refine z11 ?_|refine z19 ?_)|((with_reducible refine gR ?_);(refine z31 rfl ?_;intro K hK;(conv=>whnf)))))
      all_goals exact ⟨by rw [decide_eq_false hno],MemFits.pre 1 rfl⟩
    ·(repeat' (first|(with_reducible first|(refine hK _ _ ?_;clear hK K)|(refine hB ?_;clear hA hB A B)|(refine hK _ ?_;clear hK K))|((with_reducible first|refine z25 ?_|refine z26 ?_);intro K hK;(conv=>whnf))|(with_reducible refine z0 ?_)|((first|((with_reducible refine NIf.no ?s ?_);case s=>(simp [ha];done))|((with_reducible refine NIf.decY ?s ?_);case s=>assumption)|(with_reducible refine NN.a5 ?_)|((with_reducible refine NH.mk ?s ?_);case s=>(and_intros<;>with_reducible rfl))|((with_reducible refine NCall.isF 80 ?_);refine NCall.subE [0] (ca) rfl (by decide) rfl rfl ?_))<;>(conv=>whnf))|(with_reducible first|refine z3 ?_|refine z4 ?_|refine z5 ?_|refine z6 ?_)|((with_reducible refine z29 ?_);intro A B hA hB;(conv=>whnf))|(with_reducible first|refine z1 ?_|refine z2 ?_)|((with_reducible refine gF ?_);(refine z33 rfl ?_;intro K hK;(conv=>whnf)))|((intro _;skip)<;>(conv=>whnf))))
     refine st_auto (α:=Nat) (fun i=>i≤l.length∧¬ w∈Po.valsL f (l.take i)) (fun i=>[.keep,.keep,.keep,.keep,.keep,.keep,.set (.bool false),.set (.int .i64 i),.keep,.keep,.keep,.keep,.keep,.keep,.keep,.keep,.keep,.keep,.keep,.keep,.keep,.keep,.keep,.keep,.keep,.keep,.keep,.keep,.keep,.keep,.drop,.drop,.drop,.drop,.drop,.drop,.drop,.drop,.drop,.drop,.drop,.drop,.drop,.drop,.drop]) (fun _=>[]) (fun i=>l.length - i) 0 ⟨Nat.zero_le _,by simp [Po.valsL]⟩ ?_ (MemFits.eq rfl) ?_
     ·repeat (first|exact FitsSl.nil|refine FitsSl.any ?_|refine FitsSl.cons (Fit1.int (by first | rfl | omega)) ?_|refine FitsSl.cons (Fit1.bool rfl) ?_|refine FitsSl.cons (Fit1.same (by intro h;cases h) (by with_reducible rfl)) ?_)
     (intro i ⟨hi,hno⟩;intro K hK;(conv=>whnf);refine hK _ _ ?_;clear hK K)
     by_cases hlt:i<l.length
     ·have hx:l[i]?=some l[i]:=List.getElem?_eq_getElem hlt
      obtain ⟨pA,pcap,A,cap,hA,c0,c1,c2,c3,c4,c5,c6,c7⟩:=hu.get hx
      have hAo:=hA.l.ok
      have hAp:=hA.p.ok
      have hmem:=List.mem_of_getElem? hx
      have c:=ih _ hmem _ _ hA
      have hnx:=Po.valsL_take f hlt
      have hyes:w∈Po.vals f l[i]→w∈Po.valsL f l:=fun hw=>by
       have e:=Po.valsL_append f (l.take (i+1)) (l.drop (i+1))
       rw [List.take_append_drop,hnx] at e
       rw [e]
       exact List.mem_append_left _ (List.mem_append_right _ hw)
      have hnext:¬ w∈Po.vals f l[i]→¬ w∈Po.valsL f (l.take (i+1)):=fun h1 h2=>by
       rw [hnx] at h2
       rcases List.mem_append.1 h2 with h2 | h2
       ·exact hno h2
       ·exact h1 h2
      clear ih hnx ca
      generalize l[i]=y at *
      by_cases hw:w∈Po.vals f y
      ·rw [decide_eq_true hw] at c
       have hy:=hyes hw
       clear hyes hnext hw
       obtain ⟨yk,⟨ypk,ypf,ypv,ypl⟩,yf,yv,yl⟩:=y
       simp only [Po.cs,Po.T.k,Po.T.p,Po.T.f,Po.T.v,Po.T.l,Pd.T.k,Pd.T.f,Pd.T.v,Pd.T.l] at c c0 c1 c2 c3 c4 c5 c6 c7 hAo hAp
       (repeat' (first|(with_reducible first|(refine hK _ _ ?_;clear hK K)|(refine hA ?_;clear hA hB A B)|(refine hK _ ?_;clear hK K))|((with_reducible refine z25 ?_);intro K hK;(conv=>whnf))|(with_reducible refine z0 ?_)|((first|((with_reducible refine NIf.decY ?s ?_);case s=>omega)|((with_reducible refine NIf.yes ?s ?_);case s=>rfl)|(with_reducible first|refine NN.cast ?_|refine NN.a5 ?_|refine NN.keep ?_)|((with_reducible refine NH.mk ?s ?_);case s=>(and_intros<;>first|with_reducible rfl|omega))|((with_reducible refine NCall.isF 48 ?_);refine NCall.subE [0] (c) rfl (by decide) rfl rfl ?_)|(with_reducible refine NLd.of (by with_reducible assumption) ?_))<;>(conv=>whnf))|(with_reducible first|refine z3 ?_|refine z4 ?_|refine z5 ?_|refine z6 ?_|refine z8 ?_)|((with_reducible refine z29 ?_);intro A B hA hB;(conv=>whnf))|(with_reducible first|refine z1 ?_|refine z2 ?_|refine z12 ?_|refine z13 ?_|refine z20 ?_)|((with_reducible refine gR ?_);(refine z31 rfl ?_;intro K hK;(conv=>whnf)))))
       all_goals exact ⟨by rw [decide_eq_true hy],MemFits.pre 1 rfl⟩
      ·rw [decide_eq_false hw] at c
       have hy:=hnext hw
       clear hyes hnext hw
       obtain ⟨yk,⟨ypk,ypf,ypv,ypl⟩,yf,yv,yl⟩:=y
       simp only [Po.cs,Po.T.k,Po.T.p,Po.T.f,Po.T.v,Po.T.l,Pd.T.k,Pd.T.f,Pd.T.v,Pd.T.l] at c c0 c1 c2 c3 c4 c5 c6 c7 hAo hAp
       (repeat' (first|(with_reducible first|(refine hK _ _ ?_;clear hK K)|(refine hA ?_;clear hA hB A B)|(refine hB ?_;clear hA hB A B))|((with_reducible refine z25 ?_);intro K hK;(conv=>whnf))|(with_reducible refine z0 ?_)|((first|((with_reducible refine NV.i64 ?s ?_);case s=>omega)|((with_reducible refine NIf.decY ?s ?_);case s=>omega)|((with_reducible refine NIf.no ?s ?_);case s=>rfl)|(with_reducible first|refine NN.cast ?_|refine NN.a5 ?_|refine NN.keep ?_)|((with_reducible refine NH.mk ?s ?_);case s=>(and_intros<;>first|with_reducible rfl|omega))|((with_reducible refine NCall.isF 48 ?_);refine NCall.subE [0] (c) rfl (by decide) rfl rfl ?_)|(with_reducible refine NLd.of (by with_reducible assumption) ?_))<;>(conv=>whnf))|(with_reducible first|refine z3 ?_|refine z4 ?_|refine z5 ?_|refine z6 ?_)|((with_reducible refine z29 ?_);intro A B hA hB;(conv=>whnf))|(with_reducible first|refine z1 ?_|refine z2 ?_|refine z9 ?_)))
       refine st_round (i+1) ⟨hlt,hy⟩ (by omega) ?_ (MemFits.eq rfl)
       repeat (first|exact FitsSl.nil|refine FitsSl.any ?_|refine FitsSl.cons (Fit1.int (by first | rfl | omega)) ?_|refine FitsSl.cons (Fit1.bool rfl) ?_|refine FitsSl.cons (Fit1.same (by intro h;cases h) (by with_reducible rfl)) ?_)
     ·have hkl:i=l.length:=by omega
      subst hkl
      rw [List.take_length] at hno
      clear ih
      (repeat' (first|(with_reducible first|(refine hK _ _ ?_;clear hK K)|(refine hB ?_;clear hA hB A B)|(refine hK _ ?_;clear hK K))|((with_reducible refine z25 ?_);intro K hK;(conv=>whnf))|(with_reducible refine z0 ?_)|((first|((with_reducible refine NIf.decN ?s ?_);case s=>omega)|(with_reducible refine NN.a5 ?_)|((with_reducible refine NH.mk ?s ?_);case s=>(and_intros<;>first|with_reducible rfl|omega)))<;>(conv=>whnf))|(with_reducible first|refine z3 ?_|refine z4 ?_|refine z7 ?_|refine z8 ?_)|((with_reducible refine z29 ?_);intro A B hA hB;(conv=>whnf))|(with_reducible first|refine z1 ?_|refine z2 ?_|refine z10 ?_|refine z11 ?_|refine z19 ?_)|((with_reducible refine gR ?_);(refine z31 rfl ?_;intro K hK;(conv=>whnf)))))
      all_goals exact ⟨by rw [decide_eq_false hno],MemFits.pre 1 rfl⟩
   ·(repeat' (first|(with_reducible first|(refine hK _ _ ?_;clear hK K)|(refine hB ?_;clear hA hB A B)|(refine hK _ ?_;clear hK K))|((with_reducible first|refine z25 ?_|refine z26 ?_);intro K hK;(conv=>whnf))|(with_reducible refine z0 ?_)|((first|((with_reducible refine NIf.no ?s ?_);case s=>(simp [hk];done))|(with_reducible refine NN.a5 ?_)|((with_reducible refine NH.mk ?s ?_);case s=>(and_intros<;>with_reducible rfl))|((with_reducible refine NCall.isF 80 ?_);refine NCall.subE [0] (ca) rfl (by decide) rfl rfl ?_))<;>(conv=>whnf))|(with_reducible first|refine z3 ?_|refine z4 ?_|refine z5 ?_|refine z6 ?_)|((with_reducible refine z29 ?_);intro A B hA hB;(conv=>whnf))|(with_reducible first|refine z1 ?_|refine z2 ?_)|((with_reducible refine gF ?_);(refine z33 rfl ?_;intro K hK;(conv=>whnf)))|((intro _;skip)<;>(conv=>whnf))))
    refine st_auto (α:=Nat) (fun i=>i≤l.length∧¬ w∈Po.valsL f (l.take i)) (fun i=>[.keep,.keep,.keep,.keep,.keep,.keep,.set (.bool false),.set (.int .i64 i),.keep,.keep,.keep,.keep,.keep,.keep,.keep,.keep,.keep,.keep,.keep,.keep,.keep,.keep,.keep,.keep,.keep,.keep,.keep,.keep,.keep,.keep,.drop,.drop,.drop,.drop,.drop,.drop,.drop,.drop,.drop,.drop,.drop,.drop,.drop,.drop,.drop]) (fun _=>[]) (fun i=>l.length - i) 0 ⟨Nat.zero_le _,by simp [Po.valsL]⟩ ?_ (MemFits.eq rfl) ?_
    ·repeat (first|exact FitsSl.nil|refine FitsSl.any ?_|refine FitsSl.cons (Fit1.int (by first | rfl | omega)) ?_|refine FitsSl.cons (Fit1.bool rfl) ?_|refine FitsSl.cons (Fit1.same (by intro h;cases h) (by with_reducible rfl)) ?_)
    (intro i ⟨hi,hno⟩;intro K hK;(conv=>whnf);refine hK _ _ ?_;clear hK K)
    by_cases hlt:i<l.length
    ·have hx:l[i]?=some l[i]:=List.getElem?_eq_getElem hlt
     obtain ⟨pA,pcap,A,cap,hA,c0,c1,c2,c3,c4,c5,c6,c7⟩:=hu.get hx
     have hAo:=hA.l.ok
     have hAp:=hA.p.ok
     have hmem:=List.mem_of_getElem? hx
     have c:=ih _ hmem _ _ hA
     have hnx:=Po.valsL_take f hlt
     have hyes:w∈Po.vals f l[i]→w∈Po.valsL f l:=fun hw=>by
      have e:=Po.valsL_append f (l.take (i+1)) (l.drop (i+1))
      rw [List.take_append_drop,hnx] at e
      rw [e]
      exact List.mem_append_left _ (List.mem_append_right _ hw)
     have hnext:¬ w∈Po.vals f l[i]→¬ w∈Po.valsL f (l.take (i+1)):=fun h1 h2=>by
      rw [hnx] at h2
      rcases List.mem_append.1 h2 with h2 | h2
      ·exact hno h2
      ·exact h1 h2
     clear ih hnx ca
     generalize l[i]=y at *
     by_cases hw:w∈Po.vals f y
     ·rw [decide_eq_true hw] at c
      have hy:=hyes hw
      clear hyes hnext hw
      obtain ⟨yk,⟨ypk,ypf,ypv,ypl⟩,yf,yv,yl⟩:=y
      simp only [Po.cs,Po.T.k,Po.T.p,Po.T.f,Po.T.v,Po.T.l,Pd.T.k,Pd.T.f,Pd.T.v,Pd.T.l] at c c0 c1 c2 c3 c4 c5 c6 c7 hAo hAp
      (repeat' (first|(with_reducible first|(refine hK _ _ ?_;clear hK K)|(refine hA ?_;clear hA hB A B)|(refine hK _ ?_;clear hK K))|((with_reducible refine z25 ?_);intro K hK;(conv=>whnf))|(with_reducible refine z0 ?_)|((first|((with_reducible refine NIf.decY ?s ?_);case s=>omega)|((with_reducible refine NIf.yes ?s ?_);case s=>rfl)|(with_reducible first|refine NN.cast ?_|refine NN.a5 ?_|refine NN.keep ?_)|((with_reducible refine NH.mk ?s ?_);case s=>(and_intros<;>first|with_reducible rfl|omega))|((with_reducible refine NCall.isF 48 ?_);refine NCall.subE [0] (c) rfl (by decide) rfl rfl ?_)|(with_reducible refine NLd.of (by with_reducible assumption) ?_))<;>(conv=>whnf))|(with_reducible first|refine z3 ?_|refine z4 ?_|refine z5 ?_|refine z6 ?_|refine z8 ?_)|((with_reducible refine z29 ?_);intro A B hA hB;(conv=>whnf))|(with_reducible first|refine z1 ?_|refine z2 ?_|refine z12 ?_|refine z13 ?_|refine z20 ?_)|((with_reducible refine gR ?_);(refine z31 rfl ?_;intro K hK;(conv=>whnf)))))
      all_goals exact ⟨by rw [decide_eq_true hy],MemFits.pre 1 rfl⟩
     ·rw [decide_eq_false hw] at c
      have hy:=hnext hw
      clear hyes hnext hw
      obtain ⟨yk,⟨ypk,ypf,ypv,ypl⟩,yf,yv,yl⟩:=y
      simp only [Po.cs,Po.T.k,Po.T.p,Po.T.f,Po.T.v,Po.T.l,Pd.T.k,Pd.T.f,Pd.T.v,Pd.T.l] at c c0 c1 c2 c3 c4 c5 c6 c7 hAo hAp
      (repeat' (first|(with_reducible first|(refine hK _ _ ?_;clear hK K)|(refine hA ?_;clear hA hB A B)|(refine hB ?_;clear hA hB A B))|((with_reducible refine z25 ?_);intro K hK;(conv=>whnf))|(with_reducible refine z0 ?_)|((first|((with_reducible refine NV.i64 ?s ?_);case s=>omega)|((with_reducible refine NIf.decY ?s ?_);case s=>omega)|((with_reducible refine NIf.no ?s ?_);case s=>rfl)|(with_reducible first|refine NN.cast ?_|refine NN.a5 ?_|refine NN.keep ?_)|((with_reducible refine NH.mk ?s ?_);case s=>(and_intros<;>first|with_reducible rfl|omega))|((with_reducible refine NCall.isF 48 ?_);refine NCall.subE [0] (c) rfl (by decide) rfl rfl ?_)|(with_reducible refine NLd.of (by with_reducible assumption) ?_))<;>(conv=>whnf))|(with_reducible first|refine z3 ?_|refine z4 ?_|refine z5 ?_|refine z6 ?_)|((with_reducible refine z29 ?_);intro A B hA hB;(conv=>whnf))|(with_reducible first|refine z1 ?_|refine z2 ?_|refine z9 ?_)))
      refine st_round (i+1) ⟨hlt,hy⟩ (by omega) ?_ (MemFits.eq rfl)
      repeat (first|exact FitsSl.nil|refine FitsSl.any ?_|refine FitsSl.cons (Fit1.int (by first | rfl | omega)) ?_|refine FitsSl.cons (Fit1.bool rfl) ?_|refine FitsSl.cons (Fit1.same (by intro h;cases h) (by with_reducible rfl)) ?_)
    ·have hkl:i=l.length:=by omega
     subst hkl
     rw [List.take_length] at hno
     clear ih
     (repeat' (first|(with_reducible first|(refine hK _ _ ?_;clear hK K)|(refine hB ?_;clear hA hB A B)|(refine hK _ ?_;clear hK K))|((with_reducible refine z25 ?_);intro K hK;(conv=>whnf))|(with_reducible refine z0 ?_)|((first|((with_reducible refine NIf.decN ?s ?_);case s=>omega)|(with_reducible refine NN.a5 ?_)|((with_reducible refine NH.mk ?s ?_);case s=>(and_intros<;>first|with_reducible rfl|omega)))<;>(conv=>whnf))|(with_reducible first|refine z3 ?_|refine z4 ?_|refine z7 ?_|refine z8 ?_)|((with_reducible refine z29 ?_);intro A B hA hB;(conv=>whnf))|(with_reducible first|refine z1 ?_|refine z2 ?_|refine z10 ?_|refine z11 ?_|refine z19 ?_)|((with_reducible refine gR ?_);(refine z31 rfl ?_;intro K hK;(conv=>whnf)))))
     all_goals exact ⟨by rw [decide_eq_false hno],MemFits.pre 1 rfl⟩
theorem refvalues27_c (F:Heap) (x:Po.T) (pu u:Value) (f:Int) (hf : -9223372036854775808≤f∧f≤9223372036854775807) (hs:Po.tot x≤4611686018427387904) (hx:Po.At F x pu u) :
  NCall Tryz.prog 21 [.agg (Po.cs x pu u),.int .i64 f] [hpB F] fun r m=>Srt.Lays F (Po.asked f x ((Pd.top f).toNat+1)) r m:=by
 refine Srt.know (t:=3) ?_
 have hok:=hx.l.ok
 have hpok:=hx.p.ok
 have ctop:=reftop26_c f
 have ht0:=Pd.top_nonneg f
 have ht1:Pd.top f≤255:=by unfold Pd.top;split<;>first | omega | (split<;>first | omega | (split<;>omega))
 have ca:∀ i:Nat,NCall Tryz.prog 48 [.agg (Po.cs x pu u),.int .i64 f,.int .i64 i] [hpB F] fun r m=>r = .bool (decide ((i:Int)∈Po.vals f x))∧m=[hpB F]:=fun i=>has27_c F f i hf _ x pu u (Nat.le_refl _) hs hx
 have hnx:=Po.asked_next f x
 have hln:=Po.asked_len f x
 have h0:Po.asked f x 0=[]:=rfl
 generalize Pd.top f=T at *
 generalize hE:Po.vals f x=E at *
 generalize hW:Po.asked f x=W at *
 clear hs hx hE hW
 obtain ⟨k,⟨pk,pf,pv,pl⟩,a,v,l⟩:=x
 simp only [po_cs,Po.T.l,Po.T.p,Pd.T.k,Pd.T.f,Pd.T.v,Pd.T.l] at *
 refine ncall_of Tryz.func21 rfl (by decide) ?_
 (repeat' (first|(with_reducible first|(refine hK _ _ ?_;clear hK K)|(refine hK _ ?_;clear hK K))|((with_reducible refine z25 ?_);intro K hK;(conv=>whnf))|(with_reducible first|refine z0 ?_|refine z3 ?_|refine z4 ?_|refine z5 ?_|refine z1 ?_|refine z2 ?_)|((with_reducible refine gF ?_);(refine z33 rfl ?_;intro K hK;(conv=>whnf)))|((intro _;skip)<;>(conv=>whnf))))
 refine st_auto (α:=Value × Nat) (fun (w,i)=>i≤T.toNat+1) (fun (w,i)=>[.keep,.keep,.keep,.keep,.keep,.set (.sl 2 w (W i).length),.set (.int .i64 i),.drop,.drop,.drop,.drop,.drop,.drop,.drop,.drop,.drop,.drop,.drop,.drop,.drop,.drop,.keep]) (fun (w,i)=>[.keep,.keep,.set ⟨addrOf w,Srt.av (W i),.row w 3 1 (W i).length⟩]) (fun (w,i)=>T.toNat+1 - i) (.slice none 0 0,0) (Nat.zero_le _) ?_ ((MemFits.nilRow _ 3 1).trans (MemFits.congr (by simp only [autoM,h0];rfl))) ?_
 ·dsimp only
  rw [h0]
  repeat (first|exact FitsSl.nil|refine FitsSl.any ?_|refine FitsSl.cons (Fit1.int (by first | rfl | omega)) ?_|refine FitsSl.cons (Fit1.same (by intro h;cases h) (by with_reducible rfl)) ?_|refine FitsSl.cons Fit1.nil_sl ?_)
 (intro ⟨w,i⟩ hi;intro K hK;(conv=>whnf);refine hK _ _ ?_;clear hK K)
 dsimp only
 have hi:i≤T.toNat+1:=hi
 have hl:=hln i
 by_cases hlt:(i:Int)≤T
 ·have c:=ca i
  have hn:=hnx i
  by_cases hE:(i:Int)∈E
  ·rw [decide_eq_true hE] at c
   rw [if_pos hE] at hn
   have hav:=Srt.av_append (W i) [(i:Int)]
   have hal:=Srt.av_len (W i)
   rw [← hn] at hav
   have hlen:(W (i+1)).length=(W i).length+1:=by rw [hn,List.length_append];rfl
   generalize Srt.av (W i)=B at *
   clear ca hnx hln
   (repeat' (first|(with_reducible first|(refine hK _ _ ?_;clear hK K)|(refine hA ?_;clear hA hB A B))|((with_reducible refine z25 ?_);intro K hK;(conv=>whnf))|(with_reducible refine z0 ?_)|((first|((with_reducible refine NV.i64 ?s ?_);case s=>omega)|((with_reducible refine NIf.decY ?s ?_);case s=>assumption)|((with_reducible refine NIf.yes ?s ?_);case s=>rfl)|((with_reducible refine NH.mk ?s ?_);case s=>(and_intros<;>first|with_reducible rfl|((with_reducible refine gOnes ?_);rfl)|((with_reducible refine gLen ?_);rfl)|omega))|((with_reducible refine NCall.isF 47 ?_);refine NCall.pureE (ctop) ?_)|((with_reducible refine NCall.isF 48 ?_);refine NCall.subE [0] (c) rfl (by decide) rfl rfl ?_))<;>(conv=>whnf))|(with_reducible first|refine z3 ?_|refine z4 ?_|refine z5 ?_|refine z6 ?_)|((with_reducible refine z29 ?_);intro A B hA hB;(conv=>whnf))|(with_reducible first|refine z1 ?_|refine z2 ?_|refine z9 ?_)|((intro _;skip)<;>(conv=>whnf))))
   all_goals first | (exfalso;omega) | skip
   all_goals
    rename_i v9
    refine st_round (v9,i+1) (by show i+1≤T.toNat+1;omega) (by show T.toNat+1 - (i+1)<T.toNat+1 - i;omega) ?_ (MemFits.pre 3 ?_)
    ·dsimp only
     rw [hlen]
     repeat (first|exact FitsSl.nil|refine FitsSl.any ?_|refine FitsSl.cons (Fit1.int (by first | rfl | omega)) ?_|refine FitsSl.cons (Fit1.same (by intro h;cases h) (by with_reducible rfl)) ?_)
    ·simp only [autoM,List.take,hlen,hav]
     rfl
  ·rw [decide_eq_false hE] at c
   rw [if_neg hE,List.append_nil] at hn
   rw [← hn]
   clear ca hnx hln
   (repeat' (first|(with_reducible first|(refine hK _ _ ?_;clear hK K)|(refine hA ?_;clear hA hB A B)|(refine hB ?_;clear hA hB A B))|((with_reducible refine z25 ?_);intro K hK;(conv=>whnf))|(with_reducible refine z0 ?_)|((first|((with_reducible refine NV.i64 ?s ?_);case s=>omega)|((with_reducible refine NIf.decY ?s ?_);case s=>assumption)|((with_reducible refine NIf.no ?s ?_);case s=>rfl)|((with_reducible refine NH.mk ?s ?_);case s=>(and_intros<;>with_reducible rfl))|((with_reducible refine NCall.isF 47 ?_);refine NCall.pureE (ctop) ?_)|((with_reducible refine NCall.isF 48 ?_);refine NCall.subE [0] (c) rfl (by decide) rfl rfl ?_))<;>(conv=>whnf))|(with_reducible first|refine z3 ?_|refine z4 ?_|refine z5 ?_|refine z6 ?_)|((with_reducible refine z29 ?_);intro A B hA hB;(conv=>whnf))|(with_reducible first|refine z1 ?_|refine z2 ?_|refine z9 ?_)))
   all_goals first | (exfalso;omega) | skip
   all_goals
    refine st_round (w,i+1) (by show i+1≤T.toNat+1;omega) (by show T.toNat+1 - (i+1)<T.toNat+1 - i;omega) ?_ (MemFits.pre 3 rfl)
    dsimp only
    repeat (first|exact FitsSl.nil|refine FitsSl.any ?_|refine FitsSl.cons (Fit1.int (by first | rfl | omega)) ?_|refine FitsSl.cons (Fit1.same (by intro h;cases h) (by with_reducible rfl)) ?_)
 ·have hE:i=T.toNat+1:=by omega
  subst hE
  clear ca hnx
  (repeat' (first|(with_reducible first|(refine hK _ _ ?_;clear hK K)|(refine hB ?_;clear hA hB A B)|(refine hK _ ?_;clear hK K))|((with_reducible refine z25 ?_);intro K hK;(conv=>whnf))|(with_reducible refine z0 ?_)|((first|((with_reducible refine NIf.decN ?s ?_);case s=>assumption)|((with_reducible refine NCall.isF 47 ?_);refine NCall.pureE (ctop) ?_))<;>(conv=>whnf))|(with_reducible first|refine z3 ?_|refine z4 ?_|refine z7 ?_|refine z8 ?_)|((with_reducible refine z29 ?_);intro A B hA hB;(conv=>whnf))|(with_reducible first|refine z1 ?_|refine z2 ?_|refine z10 ?_|refine z11 ?_|refine z19 ?_)|((with_reducible refine gR ?_);(refine z31 rfl ?_;intro K hK;(conv=>whnf)))))
  all_goals first | (exfalso;omega) | skip
  all_goals exact ⟨w,rfl,MemFits.pick [0,2] (by decide) rfl⟩
set_option maxHeartbeats 16000000
theorem Tr.came_yes {a b:Int} (h:a=b):Tr.came a b = -1:=if_pos h
theorem Tr.came_no {a b:Int} (h:¬ a=b):Tr.came a b=a:=if_neg h
theorem reflast31_c (F:Heap) (sw:Int) (y:Po.T) (pu u:Value) (s:Po.S) (hs:Po.tot y≤4611686018427387904) (hf:Po.fits y=true) (hwd:Po.wide y<1000) (hl:(Po.runs sw y s).length≤1000) (hy:Po.At F y pu u) :
  NCall Tryz.prog 63 [.agg (Po.cs y pu u),.int .i64 sw,.agg [.int .i64 s.port,.int .i64 s.p0,.int .i64 s.p1,.int .i64 s.p2,.int .i64 s.p3,.raw (.slice none 0 0)]] [hpB F] fun r m=>Tr.Lay1 F ⟨s,Tr.outs sw y s⟩ r m:=by
 refine NCall.fits (K:=fun r m=>∃ F' v,F.le F'∧Po.SRow F' v (Tr.outs sw y s)∧r = .agg (Tr.cs ⟨s,Tr.outs sw y s⟩ v)∧MemFits m [hpB F']) ?_ fun r m' ⟨F',v,h1,h2,h3,h4⟩=>⟨r,_,rfl,h4,F',v,h1,h2,h3,rfl⟩
 have cr:=refrun27_c sw _ F y pu u s (Nat.le_refl _) hs hf hwd hy
 have hok:=hy.l.ok
 have hpok:=hy.p.ok
 unfold Tr.outs
 generalize Po.runs sw y s=R at *
 have hLR:(R.map (Tr.cameS s)).length=R.length:=List.length_map _
 have hLi:∀ i (h:i<R.length),∃ h2:i<(R.map (Tr.cameS s)).length,(R.map (Tr.cameS s))[i]=Tr.cameS s R[i]:=fun i h=>⟨by rw [hLR];exact h,by simp⟩
 generalize R.map (Tr.cameS s)=L at *
 clear hf hs hy hwd
 obtain ⟨yk,⟨ypk,ypf,ypv,ypl⟩,yf,yv,yl⟩:=y
 obtain ⟨s0,s1,s2,s3,s4⟩:=s
 simp only [Po.Sents,Po.cs,Po.T.k,Po.T.p,Po.T.f,Po.T.v,Po.T.l,Pd.T.k,Pd.T.f,Pd.T.v,Pd.T.l,Tr.cs,Tr.cameS] at *
 refine ncall_of Tryz.func63 rfl (by decide) ?_
 (repeat' (first|(with_reducible first|(refine hK _ _ ?_;clear hK K)|(refine hK _ ?_;clear hK K))|((with_reducible refine gO ?_);(first|((with_reducible refine z25 ?_);intro K hK;(conv=>whnf))|(with_reducible refine z0 ?_)))|((first|((with_reducible refine gN ?_);(with_reducible refine NN.a5 ?_))|((with_reducible refine gH ?_);((((with_reducible refine NH.mk ?side ?_);case side=>(and_intros<;>first | with_reducible rfl | omega | ((first | exact hv1.ok | rfl)))))))|((with_reducible refine gC ?_);((with_reducible refine NCall.isF 94 ?_);refine NCall.subw [0] _ _ (cr) rfl (by decide) rfl ?_;rintro _ _ ⟨F1,v1,hle1,hv1,rfl,rfl⟩;refine ⟨Nat.le_of_ble_eq_true rfl,_,rfl,?_⟩)))<;>(conv=>whnf))|((with_reducible refine gX ?_);((with_reducible first|refine z3 ?_|refine z4 ?_|refine z5 ?_)))|(with_reducible first|refine z1 ?_|refine z2 ?_)|((with_reducible refine gF ?_);((refine z33 rfl ?_);intro K hK;(conv=>whnf)))|((intro _;skip)<;>(conv=>whnf))))
 have hok1:=hv1.ok
 clear cr
 refine st_auto (α:=Heap × Value × Nat) (fun (G,w,i)=>F1.le G∧i≤R.length∧Po.SRow G w (Po.both [] (L.take i))) (fun (G,w,i)=>[.drop,.drop,.drop,.keep,.keep,.keep,.keep,.keep,.set (.int .i64 i),.drop,.drop,.keep,.keep,.keep,.keep,.keep,.keep,.keep,.drop,.drop,.drop,.drop,.drop,.drop,.drop,.drop,.drop,.drop,.drop,.drop,.drop,.drop,.drop,.drop,.drop,.drop,.drop,.drop,.drop,.drop,.drop,.drop,.drop,.drop,.drop,.drop,.drop,.drop,.drop,.keep])
  (fun (G,w,i)=>[.set (hpB G),.keep,.cells [.int .i64 s0,.int .i64 s1,.int .i64 s2,.int .i64 s3,.int .i64 s4,.hs w (Po.both [] (L.take i)).length],.keep]) (fun (G,w,i)=>R.length - i) (F1,.slice none 0 0,0) ⟨F1.le_refl,Nat.zero_le _,RowF.nil⟩ ?_ ?_ ?_
 ·repeat (first|exact FitsSl.nil|refine FitsSl.any ?_|refine FitsSl.cons (Fit1.int (by first | rfl | omega)) ?_|refine FitsSl.cons (Fit1.same (by intro h;cases h) (by with_reducible rfl)) ?_)
 ·exact MemFits.congr rfl
 (intro ⟨G,w,i⟩ ⟨hle2,hi,hw⟩;intro K hK;(conv=>whnf);refine hK _ _ ?_;clear hK K)
 dsimp only
 have hln:=Po.both_len (L.take i) []
 rw [List.length_take] at hln
 simp only [List.length_nil] at hln
 by_cases hlt:i<R.length
 ·obtain ⟨g0,g1,g2,g3,g4⟩:=RowF.get5 (f0:=fun s:Po.S=>.int .i64 s.port) (f1:=fun s=>.int .i64 s.p0) (f2:=fun s=>.int .i64 s.p1) (f3:=fun s=>.int .i64 s.p2) (f4:=fun s=>.int .i64 s.p3) (Tr.srow_mono hle2 hv1) hlt
  obtain ⟨hL2,eL⟩:=hLi i hlt
  have cp:=put27_c G w (Po.both [] (L.take i)) L[i] (by omega) hw
  have hnx:=Po.both_take [] hL2
  rw [← hnx,eL] at cp
  have hwo:=hw.ok
  clear hnx eL hLi
  generalize Po.both [] (L.take i)=B at *
  generalize hB2:Po.both [] (L.take (i+1))=B2 at *
  generalize R[i]=x at *
  obtain ⟨x0,x1,x2,x3,x4⟩:=x
  simp only [Po.S.av,Po.Sents] at *
  (repeat' (first|(with_reducible first|(refine hK _ _ ?_;clear hK K)|(refine hA ?_;clear hA hB A B))|((with_reducible refine z25 ?_);intro K hK;(conv=>whnf))|(with_reducible refine z0 ?_)|((first|((with_reducible refine NIf.decY ?s ?_);case s=>omega)|(with_reducible first|refine NN.cast ?_|refine NN.keep ?_)|((with_reducible refine NH.mk ?s ?_);case s=>(and_intros<;>first|with_reducible rfl|((with_reducible refine gOnes ?_);rfl)|((with_reducible refine gLen ?_);rfl)|omega))|(with_reducible refine NLd.of (by with_reducible assumption) ?_))<;>(conv=>whnf))|(with_reducible first|refine z3 ?_|refine z4 ?_|refine z5 ?_|refine z6 ?_)|((with_reducible refine z29 ?_);intro A B hA hB;(conv=>whnf))|(with_reducible first|refine z1 ?_|refine z2 ?_)|((intro _;skip)<;>(conv=>whnf))))
  rename_i b9
  refine st_auto (α:=Nat) (fun j=>j≤4) (fun j=>[.keep,.keep,.keep,.keep,.keep,.keep,.keep,.keep,.keep,.keep,.set (.int .i64 j),.keep,.keep,.keep,.keep,.keep,.keep,.keep,.keep,.keep,.keep,.keep,.keep,.keep,.keep,.keep,.keep,.keep,.drop,.drop,.drop,.drop,.drop,.drop,.drop,.drop,.drop,.drop,.drop,.drop,.drop,.drop,.drop,.drop,.keep,.keep,.keep,.keep,.keep,.keep]) (fun j=>[.keep,.keep,.keep,.keep,.cells (Tr.cellsAt x0 (Tr.came x1 s1) (Tr.came x2 s2) (Tr.came x3 s3) (Tr.came x4 s4) x1 x2 x3 x4 j)]) (fun j=>4 - j) 0 (Nat.zero_le _) ?_ ?_ ?_
  ·repeat (first|exact FitsSl.nil|refine FitsSl.any ?_|refine FitsSl.cons (Fit1.int (by first | rfl | omega)) ?_|refine FitsSl.cons (Fit1.bool rfl) ?_|refine FitsSl.cons (Fit1.same (by intro h;cases h) (by with_reducible rfl)) ?_)
  ·exact MemFits.congr rfl
  (intro j hj;intro K hK;(conv=>whnf);refine hK _ _ ?_;clear hK K)
  have hj:j≤4:=hj
  have:j=0∨j=1∨j=2∨j=3∨j=4:=by omega
  rcases this with rfl | rfl | rfl | rfl | rfl
  ·dsimp only [Tr.cellsAt]
   by_cases hx:x1=s1
   all_goals
    (repeat' (first|(with_reducible first|(refine hK _ _ ?_;clear hK K)|(refine hA ?_;clear hA hB A B)|(refine hB ?_;clear hA hB A B)|(refine hK _ ?_;clear hK K))|((with_reducible refine z25 ?_);intro K hK;(conv=>whnf))|(with_reducible refine z0 ?_)|((first|((with_reducible refine NV.i64 ?s ?_);case s=>omega)|((with_reducible refine NIf.decY ?s ?_);case s=>first|assumption|omega)|((with_reducible refine NIf.decN ?s ?_);case s=>assumption)|(with_reducible first|refine NN.cast ?_|refine NN.a3 ?_|refine NN.a5 ?_)|((with_reducible refine NH.mk ?s ?_);case s=>(and_intros<;>first|with_reducible rfl|((with_reducible refine gOnes ?_);rfl)|((with_reducible refine gLen ?_);rfl)|((with_reducible refine gKept ?_);exact rfl)|omega|rfl)))<;>(conv=>whnf))|(with_reducible refine st_ordSout ?_)|((with_reducible refine gNOK ?_);(first|(refine st_ordK1 rfl (by kernel_rfl) rfl ?_;intro K hK;(conv=>whnf))|refine st_ordK0 rfl (by kernel_rfl) ?_|refine st_ordKA rfl rfl (by kernel_rfl) (by intro h;cases h) ?_))|((with_reducible refine gNEK ?_);(first|(refine st_eachK ?_ ?_;(intro K hK;(conv=>whnf)))|exact st_eachK0))|((with_reducible refine gX ?_);(first|refine st_orderS [4] rfl rfl (by kernel_rfl) _ rfl ?_|(with_reducible first|refine z3 ?_|refine z4 ?_|refine z5 ?_|refine z6 ?_)|((with_reducible refine z29 ?_);intro A B hA hB;(conv=>whnf))))|(with_reducible first|refine z1 ?_|refine z2 ?_|refine z9 ?_)))
    all_goals first | (exfalso;omega) | skip
    all_goals
     refine st_round 1 (by decide) (by decide) ?_ ?_
     ·repeat (first|exact FitsSl.nil|refine FitsSl.any ?_|refine FitsSl.cons (Fit1.int (by first | rfl | omega)) ?_|refine FitsSl.cons (Fit1.bool rfl) ?_|refine FitsSl.cons (Fit1.same (by intro h;cases h) (by with_reducible rfl)) ?_)
     ·exact MemFits.congr (by simp only [autoM,Tr.cellsAt];first | (rw [Tr.came_yes hx];done) | (rw [Tr.came_no hx];done) | (rw [Tr.came_yes hx];rfl) | (rw [Tr.came_no hx];rfl))
  ·dsimp only [Tr.cellsAt]
   by_cases hx:x2=s2
   all_goals
    (repeat' (first|(with_reducible first|(refine hK _ _ ?_;clear hK K)|(refine hA ?_;clear hA hB A B)|(refine hB ?_;clear hA hB A B)|(refine hK _ ?_;clear hK K))|((with_reducible refine z25 ?_);intro K hK;(conv=>whnf))|(with_reducible refine z0 ?_)|((first|((with_reducible refine NV.i64 ?s ?_);case s=>omega)|((with_reducible refine NIf.decY ?s ?_);case s=>first|assumption|omega)|((with_reducible refine NIf.decN ?s ?_);case s=>assumption)|(with_reducible first|refine NN.cast ?_|refine NN.a3 ?_|refine NN.a5 ?_)|((with_reducible refine NH.mk ?s ?_);case s=>(and_intros<;>first|with_reducible rfl|((with_reducible refine gOnes ?_);rfl)|((with_reducible refine gLen ?_);rfl)|((with_reducible refine gKept ?_);exact rfl)|omega|rfl)))<;>(conv=>whnf))|(with_reducible refine st_ordSout ?_)|((with_reducible refine gNOK ?_);(first|(refine st_ordK1 rfl (by kernel_rfl) rfl ?_;intro K hK;(conv=>whnf))|refine st_ordK0 rfl (by kernel_rfl) ?_|refine st_ordKA rfl rfl (by kernel_rfl) (by intro h;cases h) ?_))|((with_reducible refine gNEK ?_);(first|(refine st_eachK ?_ ?_;(intro K hK;(conv=>whnf)))|exact st_eachK0))|((with_reducible refine gX ?_);(first|refine st_orderS [4] rfl rfl (by kernel_rfl) _ rfl ?_|(with_reducible first|refine z3 ?_|refine z4 ?_|refine z5 ?_|refine z6 ?_)|((with_reducible refine z29 ?_);intro A B hA hB;(conv=>whnf))))|(with_reducible first|refine z1 ?_|refine z2 ?_|refine z9 ?_)))
    all_goals first | (exfalso;omega) | skip
    all_goals
     refine st_round 2 (by decide) (by decide) ?_ ?_
     ·repeat (first|exact FitsSl.nil|refine FitsSl.any ?_|refine FitsSl.cons (Fit1.int (by first | rfl | omega)) ?_|refine FitsSl.cons (Fit1.bool rfl) ?_|refine FitsSl.cons (Fit1.same (by intro h;cases h) (by with_reducible rfl)) ?_)
     ·exact MemFits.congr (by simp only [autoM,Tr.cellsAt];first | (rw [Tr.came_yes hx];done) | (rw [Tr.came_no hx];done) | (rw [Tr.came_yes hx];rfl) | (rw [Tr.came_no hx];rfl))
  ·dsimp only [Tr.cellsAt]
   by_cases hx:x3=s3
   all_goals
    (repeat' (first|(with_reducible first|(refine hK _ _ ?_;clear hK K)|(refine hA ?_;clear hA hB A B)|(refine hB ?_;clear hA hB A B)|(refine hK _ ?_;clear hK K))|((with_reducible refine z25 ?_);intro K hK;(conv=>whnf))|(with_reducible refine z0 ?_)|((first|((with_reducible refine NV.i64 ?s ?_);case s=>omega)|((with_reducible refine NIf.decY ?s ?_);case s=>first|assumption|omega)|((with_reducible refine NIf.decN ?s ?_);case s=>assumption)|(with_reducible first|refine NN.cast ?_|refine NN.a3 ?_|refine NN.a5 ?_)|((with_reducible refine NH.mk ?s ?_);case s=>(and_intros<;>first|with_reducible rfl|((with_reducible refine gOnes ?_);rfl)|((with_reducible refine gLen ?_);rfl)|((with_reducible refine gKept ?_);exact rfl)|omega|rfl)))<;>(conv=>whnf))|(with_reducible refine st_ordSout ?_)|((with_reducible refine gNOK ?_);(first|(refine st_ordK1 rfl (by kernel_rfl) rfl ?_;intro K hK;(conv=>whnf))|refine st_ordK0 rfl (by kernel_rfl) ?_|refine st_ordKA rfl rfl (by kernel_rfl) (by intro h;cases h) ?_))|((with_reducible refine gNEK ?_);(first|(refine st_eachK ?_ ?_;(intro K hK;(conv=>whnf)))|exact st_eachK0))|((with_reducible refine gX ?_);(first|refine st_orderS [4] rfl rfl (by kernel_rfl) _ rfl ?_|(with_reducible first|refine z3 ?_|refine z4 ?_|refine z5 ?_|refine z6 ?_)|((with_reducible refine z29 ?_);intro A B hA hB;(conv=>whnf))))|(with_reducible first|refine z1 ?_|refine z2 ?_|refine z9 ?_)))
    all_goals first | (exfalso;omega) | skip
    all_goals
     refine st_round 3 (by decide) (by decide) ?_ ?_
     ·repeat (first|exact FitsSl.nil|refine FitsSl.any ?_|refine FitsSl.cons (Fit1.int (by first | rfl | omega)) ?_|refine FitsSl.cons (Fit1.bool rfl) ?_|refine FitsSl.cons (Fit1.same (by intro h;cases h) (by with_reducible rfl)) ?_)
     ·exact MemFits.congr (by simp only [autoM,Tr.cellsAt];first | (rw [Tr.came_yes hx];done) | (rw [Tr.came_no hx];done) | (rw [Tr.came_yes hx];rfl) | (rw [Tr.came_no hx];rfl))
  ·dsimp only [Tr.cellsAt]
   by_cases hx:x4=s4
   all_goals
    (repeat' (first|(with_reducible first|(refine hK _ _ ?_;clear hK K)|(refine hA ?_;clear hA hB A B)|(refine hB ?_;clear hA hB A B)|(refine hK _ ?_;clear hK K))|((with_reducible refine z25 ?_);intro K hK;(conv=>whnf))|(with_reducible refine z0 ?_)|((first|((with_reducible refine NV.i64 ?s ?_);case s=>omega)|((with_reducible refine NIf.decY ?s ?_);case s=>first|assumption|omega)|((with_reducible refine NIf.decN ?s ?_);case s=>assumption)|(with_reducible first|refine NN.cast ?_|refine NN.a3 ?_|refine NN.a5 ?_)|((with_reducible refine NH.mk ?s ?_);case s=>(and_intros<;>first|with_reducible rfl|((with_reducible refine gOnes ?_);rfl)|((with_reducible refine gLen ?_);rfl)|((with_reducible refine gKept ?_);exact rfl)|omega|rfl)))<;>(conv=>whnf))|(with_reducible refine st_ordSout ?_)|((with_reducible refine gNOK ?_);(first|(refine st_ordK1 rfl (by kernel_rfl) rfl ?_;intro K hK;(conv=>whnf))|refine st_ordK0 rfl (by kernel_rfl) ?_|refine st_ordKA rfl rfl (by kernel_rfl) (by intro h;cases h) ?_))|((with_reducible refine gNEK ?_);(first|(refine st_eachK ?_ ?_;(intro K hK;(conv=>whnf)))|exact st_eachK0))|((with_reducible refine gX ?_);(first|refine st_orderS [4] rfl rfl (by kernel_rfl) _ rfl ?_|(with_reducible first|refine z3 ?_|refine z4 ?_|refine z5 ?_|refine z6 ?_)|((with_reducible refine z29 ?_);intro A B hA hB;(conv=>whnf))))|(with_reducible first|refine z1 ?_|refine z2 ?_|refine z9 ?_)))
    all_goals first | (exfalso;omega) | skip
    all_goals
     refine st_round 4 (by decide) (by decide) ?_ ?_
     ·repeat (first|exact FitsSl.nil|refine FitsSl.any ?_|refine FitsSl.cons (Fit1.int (by first | rfl | omega)) ?_|refine FitsSl.cons (Fit1.bool rfl) ?_|refine FitsSl.cons (Fit1.same (by intro h;cases h) (by with_reducible rfl)) ?_)
     ·exact MemFits.congr (by simp only [autoM,Tr.cellsAt];first | (rw [Tr.came_yes hx];done) | (rw [Tr.came_no hx];done) | (rw [Tr.came_yes hx];rfl) | (rw [Tr.came_no hx];rfl))
  ·dsimp only [Tr.cellsAt]
   (repeat' (first|(with_reducible first|(refine hK _ _ ?_;clear hK K)|(refine hB ?_;clear hA hB A B))|((with_reducible refine z25 ?_);intro K hK;(conv=>whnf))|(with_reducible refine z0 ?_)|((first|((with_reducible refine NV.i64 ?s ?_);case s=>omega)|((with_reducible refine NIf.decN ?s ?_);case s=>omega)|(with_reducible refine NN.a5 ?_)|((with_reducible refine NH.mk ?s ?_);case s=>(and_intros<;>first|with_reducible rfl|((with_reducible refine gOnes ?_);rfl)|((with_reducible refine gLen ?_);rfl)))|((with_reducible refine NCall.isF 16 ?_);refine NCall.subw [0] _ _ (cp) rfl (by decide) rfl ?_;rintro _ _ ⟨G2,w2,hle3,hw2,rfl,rfl⟩;refine ⟨Nat.le_of_ble_eq_true rfl,_,rfl,?_⟩))<;>(conv=>whnf))|(with_reducible first|refine z3 ?_|refine z4 ?_|refine z7 ?_)|((with_reducible refine z29 ?_);intro A B hA hB;(conv=>whnf))|(with_reducible first|refine z1 ?_|refine z2 ?_|refine z9 ?_|refine z10 ?_|refine z11 ?_|refine z19 ?_)))
   all_goals
    refine st_round (G2,w2,i+1) ⟨hle2.trans hle3,hlt,hB2 ▸ hw2⟩ (by show R.length - (i+1)<R.length - i;omega) ?_ (MemFits.pre 4 ?_)
    ·repeat (first|exact FitsSl.nil|refine FitsSl.any ?_|refine FitsSl.cons (Fit1.int (by first | rfl | omega)) ?_|refine FitsSl.cons (Fit1.same (by intro h;cases h) (by with_reducible rfl)) ?_)
    ·dsimp only
     rw [hB2]
     rfl
 ·obtain rfl:i=L.length:=by omega
  rw [List.take_length] at *
  (repeat' (first|(with_reducible first|(refine hK _ _ ?_;clear hK K)|(refine hB ?_;clear hA hB A B)|(refine hK _ ?_;clear hK K))|((with_reducible refine z25 ?_);intro K hK;(conv=>whnf))|(with_reducible refine z0 ?_)|((first|((with_reducible refine NIf.decN ?s ?_);case s=>omega)|((with_reducible refine NH.mk ?s ?_);case s=>(and_intros<;>first|with_reducible rfl|((with_reducible refine gOnes ?_);rfl)|((with_reducible refine gLen ?_);rfl)|omega)))<;>(conv=>whnf))|(with_reducible first|refine z3 ?_|refine z4 ?_|refine z7 ?_|refine z8 ?_)|((with_reducible refine z29 ?_);intro A B hA hB;(conv=>whnf))|(with_reducible first|refine z1 ?_|refine z2 ?_|refine z10 ?_|refine z11 ?_|refine z19 ?_)|((with_reducible refine gR ?_);(refine z31 rfl ?_;intro K hK;(conv=>whnf)))))
  all_goals exact ⟨G,w,hle1.trans hle2,hw,rfl,MemFits.pre 1 rfl⟩
end Go.Proofs.YtaolcaggdddkpaaGreat
