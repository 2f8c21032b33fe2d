import Derived.Test.YtmehinfgdcmmjaaGreatJ13
import Derived.Shelf.SlSortCmp.NoneTotal
import Derived.Test.YtmehinfgdcmmjaaGreatJ12
namespace Go.Proofs.YtmehinfgdcmmjaaGreat
open Go.Sx
set_option maxRecDepth 20000
set_option linter.unusedSimpArgs false
set_option linter.unusedVariables false
set_option maxHeartbeats 4000000
def apM (F:Heap) (Bs:Nat) (u:Value) (pre:List Po.S):List Blk :=
 [hpB F,⟨⟨Bs,0,none⟩,[.sl 2 u pre.length],.var 43⟩,⟨addrOf u,Po.savs pre,.row u 48 5 pre.length⟩]
def qw (F:Heap) (sl:List AV) (pre:List Po.S) (m:List Blk):Prop :=
 ∃ Bs u,sl[2]?=some (.ptr 1 ⟨Bs,0,none⟩ 0)∧m=apM F Bs u pre
theorem mH {i j a b:Nat} (h:some (AV.ptr i ⟨a,0,none⟩ 0)=some (AV.ptr j ⟨b,0,none⟩ 0)):a=b:=by
 injection h with h
 injection h with _ h _
 injection h
theorem i7 {F:Heap} {Bs Bs':Nat} {u u':Value} {s s':List Po.S}:∀ k∈apM F Bs u s,dU (apM F Bs' u' s') k:=by
 intro k hk
 simp only [apM,List.mem_cons,List.not_mem_nil,or_false] at hk
 rcases hk with rfl | rfl | rfl
 ·exact List.mem_cons_self ..
 ·trivial
 ·trivial
theorem pt {F:Heap} {Bs:Nat} {u0:Value} {w:World} {sl:List AV} (h2:sl[2]?=some (.ptr 1 ⟨Bs,0,none⟩ 0)) (hm:MemOk (apM F Bs u0 []) w):∃ Foot,p8 (apM F Bs u0 []) (qw F sl) Foot w:=by
 have lF:∀ b,(hpB F).foot b→b<w.heap.size:=fun b hb=>(hm.holds _ (by simp [apM])).lt hb
 have lU:Bs<w.heap.size:=(hm.holds _ (List.mem_cons_of_mem _ (List.mem_cons_self ..))).lt rfl
 refine ⟨fun W b=>∃ (x:Value) (t:TypeId),W.heap[Bs]?=some (.cells #[x] t (0,0))∧x.ownBlock=some b,?_,?_⟩
 ·rintro pre m1 W ⟨Bs',u,e2,rfl⟩ hmo b hb
  rw [h2] at e2
  obtain rfl:=mH e2
  have hO:=(hmo.holds ⟨⟨Bs,0,none⟩,[.sl 2 u pre.length],.var 43⟩ (by simp [apM])).2.2
  have hR:=(hmo.holds ⟨addrOf u,Po.savs pre,.row u 48 5 pre.length⟩ (by simp [apM])).1.2
  have hslu:aw u=u:=by rcases hR with ⟨rfl,_⟩ | ⟨g,cp,cur,rfl,_⟩<;>rfl
  have hO':W.heap[Bs]?=some (.cells #[u] 43 (0,0)):=by
   have:(denL [AV.sl 2 u pre.length]).toArray=#[u]:=by simp [denL,AV.den,hslu]
   rw [this] at hO
   exact hO
  constructor
  ·rintro ⟨k,hk,hkb⟩
   simp only [apM,List.mem_cons,List.not_mem_nil,or_false] at hk
   rcases hk with rfl | rfl | rfl
   ·exact absurd (lF b hkb) (by omega)
   ·simp only [Blk.foot,Blk.bn,Option.some.injEq] at hkb
    omega
   ·exact ⟨u,_,hO',hkb⟩
  ·rintro ⟨x,t,hx,hxb⟩
   rw [hO'] at hx
   injection hx with hx
   injection hx with hx _ _
   have hx:u=x:=by simpa using hx
   subst hx
   exact ⟨⟨addrOf u,Po.savs pre,.row u 48 5 pre.length⟩,(List.mem_cons_of_mem _ (List.mem_cons_of_mem _ (List.mem_cons_self ..))),hxb⟩
 ·rintro W W' row b hsz hg hr ⟨x,t,hx,hxb⟩
  refine ⟨x,t,?_,hxb⟩
  rw [← hx]
  exact (hg.block Bs (by omega) fun e=>by have:=hr Bs e.symm;omega).symm
theorem Po.savs_next (pre:List Po.S) (t:Po.S):Po.savs (pre++[t])=Po.savs pre++[.int .i64 t.port,.int .i64 t.p0,.int .i64 t.p1,.int .i64 t.p2,.int .i64 t.p3]:=by
 rw [Po.savs_append];rfl
theorem iQ (F:Heap) (b:Nat) (N:List Po.S) (hn:N.length≤1000000) (cap:Addr) (hc:F.c cap (.map (some b))) (hb:F.o b (aS (Po.sM N))) :
  NCall Tryz.prog 206 [.raw (.slice none 0 0),.fn 196 [] [.hp cap 0]] [hpB F] fun r m=>∃ (u:Value) (L:List Po.S),L.Perm N∧r.den=aw u∧MemFits m [hpB F,⟨addrOf u,Po.savs L,.row u 48 5 L.length⟩]:=by
 refine jS Tryz.func206 rfl (by decide) rfl rfl qn (fun x=>x.av) 5 48 (fun ys=>ys.Perm N) N.length (qw F) (fun _=>rfl) ?_
 repeat' first|(refine sxZ ?_;try clear hK K)|refine sxW ?_ ?_<;>intro _|(intro K hK _;conv=>whnf)|(intro _;conv=>whnf)
 rename_i Bs
 refine ⟨rfl,196,[.hp cap 0],apM F Bs (.slice none 0 0) [],?_,?_,Go.Sx.enters_of Tryz.func196 rfl (by decide),
  l3 F b N _ (List.mem_cons_self ..) cap hc hb,⟨Bs,.slice none 0 0,rfl,rfl⟩,i7,fun w hm=>pt rfl hm,?_,?_,?_⟩
 ·exact (MemFits.nilRow _ 48 5).trans (MemFits.congr rfl)
 ·show (AV.fn _ [] [AV.hp _ 0]).den=_
  rfl
 ·rintro pre x m2 ⟨Bs',u,e2,rfl⟩
  clear e2
  unfold apM
  repeat' first|(refine sxZ ?_;try clear hK K)|refine sxW ?_ ?_<;>intro _|(intro K hK _;conv=>whnf)
  exact ⟨rfl,_,rfl,rfl⟩
 ·rintro pre x b2 m2 hlt ⟨Bs',u,e2,rfl⟩
  obtain rfl:=mH (show some (AV.ptr 1 ⟨Bs,0,none⟩ 0)=some (AV.ptr 1 ⟨Bs',0,none⟩ 0) from e2)
  have hmm:∀ u',qw F _ (pre++[x]) (apM F Bs u' (pre++[x])):=fun u'=>⟨Bs,u',e2,rfl⟩
  clear e2
  have hfit:∀ u' m3,MemFits m3 (apM F Bs u' (pre++[x]))→∃ m4,MemFits m3 m4∧qw F _ (pre++[x]) m4∧∀ k∈m4,dU (apM F Bs (.slice none 0 0) []) k :=
   fun u' m3 h=>⟨_,h,hmm u',i7⟩
  clear hmm
  have hal:=Po.savs_len pre
  have hnx:=Po.savs_next pre x
  have hl2:(pre++[x]).length=pre.length+1:=by simp
  unfold apM at hfit ⊢
  rw [hnx,hl2] at hfit
  generalize Po.savs pre=ps at *
  obtain ⟨a0,q0,q1,q2,q3⟩:=x
  simp only [Po.S.av] at *
  repeat' first|(refine sxZ ?_;try clear hK K)|refine sxW ?_ ?_<;>intro _|(intro K hK _;conv=>whnf)
  all_goals
   rename_i v2
   refine ⟨rfl,hfit v2 _ (MemFits.pre 3 ?_)⟩
   rfl
 ·rintro xs m2 hxs ⟨Bs',u,e2,rfl⟩
  obtain rfl:=mH (show some (AV.ptr 1 ⟨Bs,0,none⟩ 0)=some (AV.ptr 1 ⟨Bs',0,none⟩ 0) from e2)
  clear e2
  unfold apM
  repeat' first|(refine sxZ ?_;try clear hK K)|refine sxW ?_ ?_<;>intro _|(intro K hK _;conv=>whnf)
  all_goals exact ⟨u,xs,hxs,rfl,MemFits.pick [0,2] (by decide) rfl⟩
namespace Po
theorem lt_ahead (x y:S):Go.Proofs.ltOf cmpS x y=decide (ahead x y):=by
 unfold Go.Proofs.ltOf
 exact decide_eq_decide.2 (cmpS_lt x y)
theorem swoS:Go.Sort.SWO (Go.Proofs.ltOf cmpS) where
 irrefl x:=by rw [lt_ahead];exact decide_eq_false (ahead_irrefl x)
 trans x y z h1 h2:=by rw [lt_ahead,decide_eq_true_eq] at *;exact ahead_trans h1 h2
 ntrans x y z h1 h2:=by rw [lt_ahead,decide_eq_false_iff_not] at *;unfold ahead at *;omega
end Po
theorem qF (v:Value) (t:TypeId) (L:List Po.S) (hl:L.length<4611686018427387904) :
  NCall Tryz.prog 151 [.sl 0 v L.length,.fn 180 [] []] [⟨addrOf v,Po.savs L,.row v t 5 L.length⟩] fun r m=>r = .tup []∧∃ L':List Po.S,L'.Perm L∧L'.Pairwise (fun x y=>¬ Po.ahead y x)∧m=[⟨addrOf v,Po.savs L',.row v t 5 L.length⟩]:=by
 rw [aM]
 refine ⟨Go.Sx.enters_of Tryz.func151 rfl (by decide),fun w hm=>?_⟩
 obtain ⟨⟨h1,h2⟩,h3⟩:=hm.holds _ (List.mem_singleton.2 rfl)
 rcases h2 with ⟨rfl,hn⟩ | ⟨g,cap,cur,rfl,_,hg,hle,hcap,hsz,htk⟩
 ·have e:L=[]:=List.length_eq_zero_iff.1 hn
  subst e
  refine (AnyF.slices_SortFunc_none Tryz.sortSent none 0 _ w).mono fun e w' ⟨he,hw⟩=>?_
  subst hw
  exact ⟨.tup [],_,⟨rfl,[],List.Perm.refl _,List.Pairwise.nil,rfl⟩,he,hm,Fr.refl _ _,Fresh.self _ _⟩
 ·rw [Po.savs_den] at htk
  have hlt:g<w.heap.size:=(Array.getElem?_eq_some_iff.1 hg).1
  have hH:Go.Sort.HoldsK Po.S.vs 5 w g 0 L.toArray:=by
   unfold Go.Sort.HoldsK
   rw [Po.flatK_eq]
   exact dv hg (by rw [Po.flat_len];exact htk)
  have eg:∀ args w,(callFunc 180 args).run Tryz.prog w = .ok (.enter 180 args) w:=Go.Sx.enters_of Tryz.func180 rfl (by decide)
  have hcmp:Go.Proofs.CmpLays Tryz.prog 180 #[] Po.S.vs 5 Po.cmpS g 0 L.toArray.size w:=fun m os dk _ x y=>by
   simpa using nS x y _
  refine (AnyQ.slices_SortFunc Tryz.sortSent 5 (fun w=>Go.Sx.run_isAgg (b:=true) (by kernel_rfl) w) (fun w=>Go.Sx.run_sizeOf (s:=5) (by kernel_rfl) w) Po.S.vs (fun _=>rfl) (fun x v hv=>by simp [Po.S.vs] at hv;rcases hv with rfl | rfl | rfl | rfl | rfl<;>rfl) Po.cmpS Po.swoS 180 #[] g 0 cap L.toArray w eg hcmp hH hlt (by simpa using hl)).mono fun e w' ⟨he,d',n,os,hp,hs,hw⟩=>?_
  have hperm:d'.toList.Perm L:=by
   have h4:=hp.2.2
   have e1:d'.extract 0 L.toArray.size=d':=by
    have:=hp.1
    rw [← this,Array.extract_size]
   rw [e1] at h4
   simpa using h4
  have hsort:d'.toList.Pairwise (fun x y=>¬ Po.ahead y x):=by
   rw [List.pairwise_iff_getElem]
   intro i j hi hj hij
   have hsz2:=hp.1
   have h4:=hs i j (Nat.zero_le _) hij (by rw [← hsz2];simpa using hj)
   rw [Po.lt_ahead,decide_eq_false_iff_not] at h4
   rw [getElem!_pos _ j (by simpa using hj),getElem!_pos _ i (by simpa using hi)] at h4
   simpa using h4
  have hlen:d'.toList.length=L.length:=hperm.length_eq
  have hw':w'=Go.Sort.grow (Go.Sort.putRow id (Go.Sort.ahead w n) g 0 (d'.toList.flatMap Po.S.vs).toArray) os:=by
   rw [hw]
   unfold Go.Proofs.sortWorldK Go.Sort.putRowK
   rw [show d'=d'.toList.toArray from rfl,Po.flatK_eq]
  have hgr:=dw (w:=w) (g:=g) (n:=n) (os:=os) (d'.toList.flatMap Po.S.vs).toArray
  have hhp:=fL (n:=n) (os:=os) (d'.toList.flatMap Po.S.vs).toArray hg
  rw [← hw'] at hgr hhp
  have hfl:(d'.toList.flatMap Po.S.vs).length=L.length*5:=by rw [Po.flat_len,hlen]
  have hown:w'.ownsRow 0 t 5 (.slice (some ⟨g,0,none⟩) L.length cap) L.length (denL (Po.savs d'.toList)):=by
   rw [Po.savs_den]
   exact ⟨by rw [hfl],.inr ⟨g,cap,_,rfl,Nat.zero_le _,hhp,hle,hcap,by simp [Go.Sort.putCells,hsz],by rw [← hfl];exact dz cur _ (by rw [hfl,hsz];exact Nat.mul_le_mul_right 5 hle)⟩⟩
  have hfr:=Fr.grown hgr
  refine ⟨.tup [],_,⟨rfl,d'.toList,hperm,hsort,rfl⟩,he,?_,?_,?_⟩
  ·exact hm.set (i:=0) (k:=⟨addrOf (.slice (some ⟨g,0,none⟩) L.length cap),Po.savs d'.toList,.row (.slice (some ⟨g,0,none⟩) L.length cap) t 5 L.length⟩) hfr.size rfl rfl
    (fun b hb hlt=>hfr.block b hlt fun e=>hb e) ⟨hown,rfl⟩ rfl (.inr (.inl rfl))
  ·exact ⟨hfr.os,hfr.tape,hfr.output,hfr.size,fun k hk hS=>hfr.block k hk fun e=>hS ⟨_,List.mem_singleton.2 rfl,rfl,e⟩⟩
  ·exact Fresh.set (i:=0) (Fresh.self _ _) (k:=⟨addrOf (.slice (some ⟨g,0,none⟩) L.length cap),Po.savs d'.toList,.row (.slice (some ⟨g,0,none⟩) L.length cap) t 5 L.length⟩) rfl fun b hb=>.inl ⟨_,List.mem_singleton.2 rfl,rfl,hb⟩
theorem qL (F:Heap) (f v:Int) (pu u:Value) (sw:Int) (hx:Po.At F (.mk 2 Po.noneP f v []) pu u) (s:Po.S) (b:Nat) (L:List Po.S) (hL:L.Nodup) :
  NCall Tryz.prog 177 [.raw (.map (some b)),.agg (Po.cs (.mk 2 Po.noneP f v []) pu u),.int .i64 sw,.agg s.av] [hpB F,aa b (Po.sM L)] fun r m=>Po.doneR F b L (fun t=>t∈Po.runs sw (.mk 2 Po.noneP f v []) s) r m:=by
 refine NCall.fits (K:=fun r m=>∃ L':List Po.S,L'.Nodup∧(∀ t,t∈L'↔t∈L∨t∈Po.runs sw (.mk 2 Po.noneP f v []) s)∧r = .tup []∧MemFits m [hpB F,aa b (Po.sM L')]) ?_ fun r m' ⟨L',h1,h2,h3,h4⟩=>⟨r,_,rfl,h4,L',h1,h2,h3,rfl⟩
 have hok:=hx.l.ok
 have hpok:=hx.p.ok
 have cs:=qH 2 f v 0 0 0 (.hs pu 0) (.hs u 0) s
 have hr:=Po.runs_mk sw 2 Po.noneP f v [] s
 rw [if_neg (by decide),if_pos rfl] at hr
 have hu:Tryz.prog.underlying 232=some (.map 48 238):=by kernel_rfl
 generalize Po.put f v s=z at *
 have hadd:=Po.add_nodup hL z
 have hmem:=fun t=>Po.mem_add (L:=L) (s:=z) (t:=t)
 rw [hr]
 clear hr hx
 rw [ax]
 unfold Po.noneP
 have hkey:(AV.agg z.av).den=z.key:=rfl
 obtain ⟨a0,a,b',c,d⟩:=s
 simp only [ab,Pd.T.k,Pd.T.f,Pd.T.v,Pd.T.l,Po.S.av,List.length_nil] at *
 refine aA Tryz.func177 rfl (by decide) ?_
 repeat' first|((try intro K hK);(with_reducible refine gC ?_);refine cP cs ?_)|((try intro K hK);((with_reducible refine eH ?_);refine fF (j:=1) hu rfl hkey rfl ?_;conv=>whnf))|(refine sxZ ?_;try clear hK K)|refine sxW ?_ ?_<;>intro _|(intro K hK _;conv=>whnf)|(intro _;conv=>whnf)
 all_goals exact ⟨_,hadd,fun t=>by rw [hmem];simp,rfl,MemFits.pre 2 rfl⟩
theorem qJ (F:Heap) (l:List Po.T) (pu u:Value) (sw:Int) (hln:l.length≤1000) (hx:Po.At F (.mk 4 Po.noneP 0 0 l) pu u) (s:Po.S) (b:Nat) (L:List Po.S) (hL:L.Nodup)
  (ih:∀ y∈l,∀ pw w,Po.At F y pw w→∀ (s:Po.S) (b:Nat) (L:List Po.S),L.Nodup→NCall Tryz.prog 177 [.raw (.map (some b)),.agg (Po.cs y pw w),.int .i64 sw,.agg s.av] [hpB F,aa b (Po.sM L)] fun r m=>Po.doneR F b L (fun t=>t∈Po.runs sw y s) r m) :
  NCall Tryz.prog 177 [.raw (.map (some b)),.agg (Po.cs (.mk 4 Po.noneP 0 0 l) pu u),.int .i64 sw,.agg s.av] [hpB F,aa b (Po.sM L)] fun r m=>Po.doneR F b L (fun t=>t∈Po.runs sw (.mk 4 Po.noneP 0 0 l) s) r m:=by
 refine NCall.fits (K:=fun r m=>∃ L':List Po.S,L'.Nodup∧(∀ t,t∈L'↔t∈L∨t∈Po.runs sw (.mk 4 Po.noneP 0 0 l) s)∧r = .tup []∧MemFits m [hpB F,aa b (Po.sM L')]) ?_ fun r m' ⟨L',h1,h2,h3,h4⟩=>⟨r,_,rfl,h4,L',h1,h2,h3,rfl⟩
 have hrow:Po.Row F u l:=hx.l
 have hok:=hrow.ok
 have hpok:SlOk pu 0:=hx.p.ok
 have hr:=Po.runs_mk sw 4 Po.noneP 0 0 l s
 rw [if_neg (by decide),if_neg (by decide),if_neg (by decide),if_pos rfl] at hr
 have hmr:∀ t,t∈Po.runs sw (.mk 4 Po.noneP 0 0 l) s↔∃ y∈l,t∈Po.runs sw y s:=fun t=>by rw [hr];exact (Po.mem_runsU sw s t l []).trans (by simp)
 simp only [hmr]
 clear hr hmr hx
 rw [ax]
 unfold Po.noneP
 have ih:∀ y∈l,∀ pw w,Po.At F y pw w→∀ (b:Nat) (L:List Po.S),L.Nodup→NCall Tryz.prog 177 [.raw (.map (some b)),.agg (Po.cs y pw w),.int .i64 sw,.agg s.av] [hpB F,aa b (Po.sM L)] fun r m=>∃ L':List Po.S,L'.Nodup∧(∀ t,t∈L'↔t∈L∨t∈Po.runs sw y s)∧r = .tup []∧m=[hpB F,aa b (Po.sM L')]:=fun y hy pw w hA b L hL=>ih y hy pw w hA s b L hL
 obtain ⟨a0,a,b',c,d⟩:=s
 generalize Po.runs sw=R at *
 simp only [ab,Pd.T.k,Pd.T.f,Pd.T.v,Pd.T.l,Po.S.av,List.length_nil] at *
 refine aA Tryz.func177 rfl (by decide) ?_
 repeat' first|(refine sxZ ?_;try clear hK K)|refine sxW ?_ ?_<;>intro _|(intro K hK _;conv=>whnf)
 refine aD (α:=Nat × List Po.S) (fun (i,L')=>i≤l.length∧L'.Nodup∧∀ t,t∈L'↔t∈L∨∃ y∈l.take i,t∈R y ⟨a0,a,b',c,d⟩) (fun (i,L')=>[.k,.k,.k,.k,.k,.k,.k,.k,.k,.d,.k,.k,.k,.k,.k,.k,.k,.k,.k,.k,.k,.k,.k,.k,.k,.k,.k,.k,.k,.k,.k,.k,.k,.k,.k,.k,.k,.k,.k,.k,.k,.k,.k,.set (.int .i64 i),.d,.d,.d,.d,.d,.d,.d,.d,.d,.k,.k,.k,.k,.k,.k,.k,.k,.k,.k,.k,.k,.k,.k,.k,.k,.k,.k,.k,.k,.k,.k,.k,.k,.k,.k,.k,.k,.k,.k,.k,.k,.k,.k,.k,.k,.k,.k,.k,.k,.k,.k,.k,.k,.k,.k,.k,.k,.k]) (fun (i,L')=>[.k,.set (aa b (Po.sM L'))]) (fun (i,L')=>l.length - i) (0,L) ⟨Nat.zero_le _,hL,fun t=>by simp⟩ ?_ ?_ ?_
 ·exact aC
 ·exact MemFits.eq rfl
 (intro ⟨i,L'⟩ ⟨hi,hn,hm⟩;intro K hK;(conv=>whnf);refine hK _ _ ?_;clear hK K)
 dsimp only
 by_cases hlt:i<l.length
 ·have hx:l[i]?=some l[i]:=List.getElem?_eq_getElem hlt
  obtain ⟨pA,pcap,A,cap,hA,c0,c1,c2,c3,c4,c5,c6,c7⟩:=hrow.get hx
  have hAo:=hA.l.ok
  have hAp:=hA.p.ok
  have cc:=ih _ (List.mem_of_getElem? hx) _ _ hA b L' hn
  have hnx:l.take (i+1)=l.take i++[l[i]]:=by rw [List.take_add_one,hx];rfl
  clear ih
  generalize l[i]=y at *
  have hstep:∀ L2:List Po.S,(∀ t,t∈L2↔t∈L'∨t∈R y ⟨a0,a,b',c,d⟩)→∀ t,t∈L2↔t∈L∨∃ y∈l.take (i+1),t∈R y ⟨a0,a,b',c,d⟩:=fun L2 h2 t=>by
   rw [h2,hm,hnx]
   simp only [List.mem_append,List.mem_singleton,or_and_right,exists_or,exists_eq_left,or_assoc]
  obtain ⟨yk,⟨ypk,ypf,ypv,ypl⟩,yf,yv,yl⟩:=y
  simp only [Po.cs,Po.T.k,Po.T.p,Po.T.f,Po.T.v,Po.T.l,Pd.T.k,Pd.T.f,Pd.T.v,Pd.T.l] at cc c0 c1 c2 c3 c4 c5 c6 c7 hAo hAp
  repeat' first|(intro K hK;(with_reducible refine gC ?_);(refine cN [0,1] cc ?_;rintro _ _ ⟨L2,hn2,hm2,rfl,rfl⟩;refine cR ?_))|(refine sxZ ?_;try clear hK K)|refine sxW ?_ ?_<;>intro _|(intro K hK _;conv=>whnf)
  all_goals
   refine aB (i+1,L2) ⟨hlt,hn2,hstep L2 hm2⟩ (show l.length - (i+1)<l.length - i by omega) ?_ (MemFits.pre 4 rfl)
   exact aC
 ·obtain rfl:i=l.length:=by omega
  rw [List.take_length] at hm
  clear ih
  repeat' first|(refine sxZ ?_;try clear hK K)|refine sxW ?_ ?_<;>intro _|(intro K hK _;conv=>whnf)
  all_goals exact ⟨L',hn,hm,rfl,MemFits.pre 2 rfl⟩
theorem run27_5 (F:Heap) (p:Pd.T) (x y:Po.T) (pu u:Value) (sw:Int) (hs:Pd.size p≤4611686018427387904) (hx:Po.At F (.mk 5 p 0 0 [x,y]) pu u) (s:Po.S) (b:Nat) (L:List Po.S) (hL:L.Nodup)
  (ih:∀ z∈[x,y],∀ pw w,Po.At F z pw w→∀ (s:Po.S) (b:Nat) (L:List Po.S),L.Nodup→NCall Tryz.prog 177 [.raw (.map (some b)),.agg (Po.cs z pw w),.int .i64 sw,.agg s.av] [hpB F,aa b (Po.sM L)] fun r m=>Po.doneR F b L (fun t=>t∈Po.runs sw z s) r m) :
  NCall Tryz.prog 177 [.raw (.map (some b)),.agg (Po.cs (.mk 5 p 0 0 [x,y]) pu u),.int .i64 sw,.agg s.av] [hpB F,aa b (Po.sM L)] fun r m=>Po.doneR F b L (fun t=>t∈Po.runs sw (.mk 5 p 0 0 [x,y]) s) r m:=by
 refine NCall.fits (K:=fun r m=>∃ L':List Po.S,L'.Nodup∧(∀ t,t∈L'↔t∈L∨t∈Po.runs sw (.mk 5 p 0 0 [x,y]) s)∧r = .tup []∧MemFits m [hpB F,aa b (Po.sM L')]) ?_ fun r m' ⟨L',h1,h2,h3,h4⟩=>⟨r,_,rfl,h4,L',h1,h2,h3,rfl⟩
 have hrow:Po.Row F u [x,y]:=hx.l
 have hok:=hrow.ok
 have hpok:=hx.p.ok
 have ch:=lG F (s.at_ sw) p pu hs hx.p
 have hr:=Po.runs_mk sw 5 p 0 0 [x,y] s
 rw [if_neg (by decide),if_neg (by decide),if_neg (by decide),if_neg (by decide),if_pos rfl] at hr
 rw [hr]
 clear hr hx
 have ha:Po.runsA sw [x,y] s=Po.runs sw x s:=by rw [Po.runsA]
 have hb2:Po.runsB sw [x,y] s=Po.runs sw y s:=by rw [Po.runsB,Po.runsA]
 rw [ha,hb2]
 clear ha hb2
 rw [ax]
 generalize Pd.hits (s.at_ sw) p=hb at *
 obtain ⟨pk,pf,pv,pl⟩:=p
 simp only [Po.doneR] at ih
 cases hb with
 | true =>
  obtain ⟨pA,pcap,A,cap,hA,c0,c1,c2,c3,c4,c5,c6,c7⟩:=hrow.get (i:=0) (x:=x) rfl
  have hAo:=hA.l.ok
  have hAp:=hA.p.ok
  have cc:=ih x (by simp) _ _ hA s b L hL
  clear ih
  rw [if_pos rfl]
  generalize Po.runs sw x s=R at *
  obtain ⟨yk,⟨ypk,ypf,ypv,ypl⟩,yf,yv,yl⟩:=x
  obtain ⟨a0,a,b',c,d⟩:=s
  simp only [ab,Po.cs,Po.T.k,Po.T.p,Po.T.f,Po.T.v,Po.T.l,Pd.T.k,Pd.T.f,Pd.T.v,Pd.T.l,Po.S.av,Po.S.at_,Pd.At.pk] at *
  refine aA Tryz.func177 rfl (by decide) ?_
  repeat' first|(intro K hK;(with_reducible refine gC ?_);first|refine cS [0] ch ?_|(refine cN [0,1] cc ?_;rintro _ _ ⟨L2,hn2,hm2,rfl,rfl⟩;refine cR ?_))|(refine aV [1] ?_;try clear hK K)|refine sxW ?_ ?_<;>intro _|refine aW ?_ ?_|(intro K hK _;conv=>whnf)
  all_goals exact ⟨L2,hn2,hm2,rfl,MemFits.pre 2 rfl⟩
 | false =>
  obtain ⟨pA,pcap,A,cap,hA,c0,c1,c2,c3,c4,c5,c6,c7⟩:=hrow.get (i:=1) (x:=y) rfl
  have hAo:=hA.l.ok
  have hAp:=hA.p.ok
  have cc:=ih y (by simp) _ _ hA s b L hL
  clear ih
  rw [if_neg (by decide)]
  generalize Po.runs sw y s=R at *
  obtain ⟨yk,⟨ypk,ypf,ypv,ypl⟩,yf,yv,yl⟩:=y
  obtain ⟨a0,a,b',c,d⟩:=s
  simp only [ab,Po.cs,Po.T.k,Po.T.p,Po.T.f,Po.T.v,Po.T.l,Pd.T.k,Pd.T.f,Pd.T.v,Pd.T.l,Po.S.av,Po.S.at_,Pd.At.pk] at *
  refine aA Tryz.func177 rfl (by decide) ?_
  repeat' first|(intro K hK;(with_reducible refine gC ?_);first|refine cS [0] ch ?_|(refine cN [0,1] cc ?_;rintro _ _ ⟨L2,hn2,hm2,rfl,rfl⟩;refine cR ?_))|(refine aV [1] ?_;try clear hK K)|refine sxW ?_ ?_<;>intro _|refine aW ?_ ?_|(intro K hK _;conv=>whnf)
  all_goals exact ⟨L2,hn2,hm2,rfl,MemFits.pre 2 rfl⟩
theorem qK (F:Heap) (l:List Po.T) (pu u:Value) (sw:Int) (hln:l.length≤1000) (hx:Po.At F (.mk 3 Po.noneP 0 0 l) pu u) (s:Po.S) (b:Nat) (L:List Po.S) (hL:L.Nodup)
  (ih:∀ y∈l,∀ pw w,Po.At F y pw w→∀ (s:Po.S) (b:Nat) (L:List Po.S),L.Nodup→NCall Tryz.prog 177 [.raw (.map (some b)),.agg (Po.cs y pw w),.int .i64 sw,.agg s.av] [hpB F,aa b (Po.sM L)] fun r m=>Po.doneR F b L (fun t=>t∈Po.runs sw y s) r m) :
  NCall Tryz.prog 177 [.raw (.map (some b)),.agg (Po.cs (.mk 3 Po.noneP 0 0 l) pu u),.int .i64 sw,.agg s.av] [hpB F,aa b (Po.sM L)] fun r m=>Po.doneR F b L (fun t=>t∈Po.runs sw (.mk 3 Po.noneP 0 0 l) s) r m:=by
 refine NCall.fits (K:=fun r m=>∃ L':List Po.S,L'.Nodup∧(∀ t,t∈L'↔t∈L∨t∈Po.runs sw (.mk 3 Po.noneP 0 0 l) s)∧r = .tup []∧MemFits m [hpB F,aa b (Po.sM L')]) ?_ fun r m' ⟨L',h1,h2,h3,h4⟩=>⟨r,_,rfl,h4,L',h1,h2,h3,rfl⟩
 have hrow:Po.Row F u l:=hx.l
 have hok:=hrow.ok
 have hpok:SlOk pu 0:=hx.p.ok
 have hr:=Po.runs_mk sw 3 Po.noneP 0 0 l s
 rw [if_neg (by decide),if_neg (by decide),if_pos rfl] at hr
 rw [hr]
 clear hr hx
 have hu:Tryz.prog.underlying 232=some (.map 48 238):=by kernel_rfl
 have hkey:(AV.agg s.av).den=s.key:=rfl
 have ih:∀ y∈l,∀ pw w,Po.At F y pw w→∀ (t:Po.S) (b:Nat) (L:List Po.S),L.Nodup→NCall Tryz.prog 177 [.raw (.map (some b)),.agg (Po.cs y pw w),.int .i64 sw,.agg [.int .i64 t.port,.int .i64 t.p0,.int .i64 t.p1,.int .i64 t.p2,.int .i64 t.p3]] [hpB F,aa b (Po.sM L)] fun r m=>∃ L':List Po.S,L'.Nodup∧(∀ q,q∈L'↔q∈L∨q∈Po.runs sw y t)∧r = .tup []∧m=[hpB F,aa b (Po.sM L')]:=fun y hy pw w hA t b L hL=>ih y hy pw w hA t b L hL
 have h0:Po.runsQ sw (l.take 0) [s]=[s]:=by rw [List.take_zero,Po.runsQ]
 have hnxt:∀ (k:Nat) (h:k<l.length) (q:Po.S),q∈Po.runsQ sw (l.take (k+1)) [s]↔∃ t∈Po.runsQ sw (l.take k) [s],q∈Po.runs sw l[k] t:=fun k h q=>by rw [Po.runsQ_take sw h];exact Po.mem_then sw l[k] q _
 have hend:Po.runsQ sw (l.take l.length) [s]=Po.runsQ sw l [s]:=by rw [List.take_length]
 rw [← hend]
 clear hend
 generalize hQ:(fun k=>Po.runsQ sw (l.take k) [s])=Q at *
 have hQ':∀ k,Po.runsQ sw (l.take k) [s]=Q k:=fun k=>by rw [← hQ]
 simp only [hQ'] at h0 hnxt ⊢
 clear hQ hQ'
 have hcopy:=fun (b1:Nat) (N:List Po.S)=>pW b b1 L N hL
 have hs1:∀ q,q∈Po.add [] s↔q∈Q 0:=fun q=>by rw [Po.mem_add,h0];simp
 have hs2:(Po.add [] s).Nodup:=Po.add_nodup List.nodup_nil s
 clear h0
 rw [ax]
 unfold Po.noneP
 obtain ⟨a0,a,b',c,d⟩:=s
 simp only [ab,Pd.T.k,Pd.T.f,Pd.T.v,Pd.T.l,Po.S.av,List.length_nil] at *
 refine aA Tryz.func177 rfl (by decide) ?_
 generalize hR:Po.runs sw=R at *
 clear hR
 repeat' first|((try intro K hK);((with_reducible refine eH ?_);refine NMap.make fun b1=>?_;conv=>whnf))|((try intro K hK);((with_reducible refine eH ?_);refine fF (j:=4) (L:=[]) hu rfl hkey rfl ?_;conv=>whnf))|(refine sxZ ?_;try clear hK K)|refine sxW ?_ ?_<;>intro _|(intro K hK _;conv=>whnf)|(intro _;conv=>whnf)
 refine aD (α:=Nat × List Po.S × Nat) (fun (i,N,b2)=>i≤l.length∧N.Nodup∧∀ q,q∈N↔q∈Q i) (fun (i,N,b2)=>[.k,.k,.k,.k,.k,.k,.k,.k,.k,.k,.k,.set (.raw (.map (some b2))),.k,.d,.d,.d,.k,.k,.k,.k,.k,.k,.k,.k,.k,.k,.k,.k,.k,.k,.k,.k,.k,.k,.k,.k,.k,.k,.k,.k,.k,.k,.k,.k,.k,.k,.k,.k,.k,.k,.k,.k,.k,.k,.k,.k,.k,.k,.k,.k,.k,.k,.k,.k,.k,.k,.k,.k,.k,.k,.k,.k,.k,.k,.k,.k,.k,.k,.k,.k,.k,.set (.int .i64 i),.d,.d,.d,.d,.d,.d,.d,.d,.d,.d,.d,.d,.d,.d,.d,.d,.d,.k,.k,.k]) (fun (i,N,b2)=>[.k,.k,.k,.k,.set (aa b2 (Po.sM N))]) (fun (i,N,b2)=>l.length - i) (0,Po.add [] ⟨a0,a,b',c,d⟩,b1) ⟨Nat.zero_le _,hs2,hs1⟩ ?_ ?_ ?_
 ·exact aC
 ·exact MemFits.eq rfl
 (intro ⟨i,N,b2⟩ ⟨hi,hn,hm⟩;intro K hK;(conv=>whnf);refine hK _ _ ?_;clear hK K)
 dsimp only
 by_cases hlt:i<l.length
 ·have hx:l[i]?=some l[i]:=List.getElem?_eq_getElem hlt
  obtain ⟨pA,pcap,A,cap,hA,c0,c1,c2,c3,c4,c5,c6,c7⟩:=hrow.get hx
  have hAo:=hA.l.ok
  have hAp:=hA.p.ok
  have cc:=ih _ (List.mem_of_getElem? hx) _ _ hA
  have hnx:=hnxt i hlt
  clear ih hnxt hcopy
  generalize l[i]=y at *
  generalize hRy:R y=Ry at *
  clear hRy
  obtain ⟨yk,⟨ypk,ypf,ypv,ypl⟩,yf,yv,yl⟩:=y
  simp only [Po.cs,Po.T.k,Po.T.p,Po.T.f,Po.T.v,Po.T.l,Pd.T.k,Pd.T.f,Pd.T.v,Pd.T.l] at cc c0 c1 c2 c3 c4 c5 c6 c7 hAo hAp
  repeat' first|((try intro K hK);((with_reducible refine eH ?_);refine NMap.make fun b3=>?_;conv=>whnf))|((try intro K hK);((with_reducible refine eH ?_);refine eu (N:=N) hu (bW.own (j:=4) rfl) fun c9=>?_;conv=>whnf))|(refine sxZ ?_;try clear hK K)|refine sxW ?_ ?_<;>intro _|(intro K hK _;conv=>whnf)|(intro _;conv=>whnf)
  refine aD (α:=Array Nat × List Po.S) (fun (seen,N2)=>N2.Nodup∧∀ q,q∈N2↔∃ t,Po.come N seen t∧q∈Ry t) (fun (seen,N2)=>[.k,.k,.k,.k,.k,.k,.k,.k,.k,.k,.k,.k,.k,.k,.k,.d,.k,.k,.k,.k,.k,.k,.k,.k,.k,.k,.k,.k,.k,.k,.k,.k,.k,.k,.k,.k,.k,.k,.k,.k,.k,.k,.k,.k,.k,.k,.k,.k,.k,.k,.k,.k,.k,.k,.k,.k,.k,.k,.k,.k,.k,.k,.k,.k,.k,.k,.k,.k,.k,.k,.k,.k,.k,.k,.k,.k,.k,.k,.k,.k,.k,.k,.k,.k,.k,.k,.k,.k,.d,.d,.d,.d,.d,.d,.d,.d,.d,.k,.k,.k,.k,.k]) (fun (seen,N2)=>[.k,.k,.k,.k,.k,.k,.set (aa b3 (Po.sM N2)),.set (itB c9 b2 N.length seen)]) (fun (seen,N2)=>Po.left N.length seen) (#[],[]) ⟨List.nodup_nil,fun q=>⟨fun h=>(List.not_mem_nil h).elim,fun ⟨t,h,_⟩=>absurd h Po.come_none⟩⟩ ?_ ?_ ?_
  ·exact aC
  ·exact MemFits.eq rfl
  (intro ⟨seen,N2⟩ ⟨hn2,hm2⟩;intro K hK;(conv=>whnf);refine hK _ _ ?_;clear hK K)
  dsimp only
  repeat' first|((try intro K hK);(with_reducible refine gC ?_);(refine cN [0,6] (cc t9 b3 N2 hn2) ?_;rintro _ _ ⟨N3,hn3,hm3,rfl,rfl⟩;refine cR ?_))|((try intro K hK);((with_reducible refine eH ?_);refine fP (N:=N) (j:=7) rfl (bW.own (j:=4) rfl) ?_ ?_<;>first | (intro i9 t9 hi9 hs9;conv=>whnf) | (intro hall9;conv=>whnf)))|((try intro K hK);((with_reducible refine eH ?_);refine gW (N:=N) (j:=7) rfl (bW.own (j:=4) rfl) hi9 ?_;conv=>whnf))|(refine sxZ ?_;try clear hK K)|refine sxW ?_ ?_<;>intro _|(intro K hK _;conv=>whnf)|(intro _;conv=>whnf)
  ·refine aB (i+1,N2,b3) ⟨hlt,hn2,fun q=>?_⟩ (show l.length - (i+1)<l.length - i by omega) ?_ (MemFits.pick [0,1,2,3,6] (by decide) rfl)
   ·rw [hm2,hnx]
    exact exists_congr fun t=>and_congr ((Po.come_all hall9).trans (hm t)) Iff.rfl
   ·exact aC
  ·refine aB (seen.push i9,N3) ⟨hn3,fun q=>?_⟩ (Po.left_push (List.getElem?_eq_some_iff.1 hi9).1 hs9) ?_ (MemFits.pre 8 rfl)
   ·rw [hm3,hm2]
    constructor
    ·rintro (⟨t,h1,h2⟩ | h)
     ·exact ⟨t,(Po.come_push hi9).2 (.inl h1),h2⟩
     ·exact ⟨t9,(Po.come_push hi9).2 (.inr rfl),h⟩
    ·rintro ⟨t,h1,h2⟩
     rcases (Po.come_push hi9).1 h1 with h1 | rfl
     ·exact .inl ⟨t,h1,h2⟩
     ·exact .inr h2
   ·exact aC
 ·obtain rfl:i=l.length:=by omega
  have cc:=hcopy b2 N
  clear ih hnxt hcopy
  repeat' first|(intro K hK;(with_reducible refine gC ?_);(refine cN [1,4] cc ?_;rintro _ _ ⟨L2,hn2,hm2,rfl,rfl⟩;refine cR ?_))|(refine sxZ ?_;try clear hK K)|refine sxW ?_ ?_<;>intro _|(intro K hK _;conv=>whnf)
  all_goals exact ⟨L2,hn2,fun t=>by rw [hm2,hm],rfl,MemFits.pre 2 rfl⟩
theorem mQ:∀ (n:Nat) (F:Heap) (x:Po.T) (pu u:Value) (sw:Int),Po.tot x≤n→Po.tot x≤4611686018427387904→Po.fits x=true→Po.At F x pu u→∀ (s:Po.S) (b:Nat) (L:List Po.S),L.Nodup →
  NCall Tryz.prog 177 [.raw (.map (some b)),.agg (Po.cs x pu u),.int .i64 sw,.agg s.av] [hpB F,aa b (Po.sM L)] fun r m=>Po.doneR F b L (fun t=>t∈Po.runs sw x s) r m
 | 0,F,x,pu,u,sw,hn,_,_,_=>absurd (Po.tot_pos x) (by omega)
 | n+1,F,⟨k,p,f,v,l⟩,pu,u,sw,hn,hs,hf,hx=>fun s b L hL=>by
  have e2:=Po.tot_mk k p f v l
  obtain ⟨hsh,hfl⟩:=Po.fits_iff.1 hf
  have ih:∀ y∈l,∀ pw w,Po.At F y pw w→∀ (s:Po.S) (b:Nat) (L:List Po.S),L.Nodup→NCall Tryz.prog 177 [.raw (.map (some b)),.agg (Po.cs y pw w),.int .i64 sw,.agg s.av] [hpB F,aa b (Po.sM L)] fun r m=>Po.doneR F b L (fun t=>t∈Po.runs sw y s) r m :=
   fun y hy pw w hw=>mQ n F y pw w sw (by have:=Po.tot_lt (k:=k) (q:=p) (f:=f) (v:=v) hy;omega) (by have:=Po.tot_lt (k:=k) (q:=p) (f:=f) (v:=v) hy;omega) (hfl y hy) hw
  rcases hsh with ⟨rfl,hr,⟨rfl,rfl⟩,hl⟩ | ⟨rfl,rfl,hf1,hv1,hl⟩ | ⟨rfl | rfl,rfl,⟨rfl,rfl⟩,hl1,hl2⟩ | ⟨rfl,hr,⟨rfl,rfl⟩,hl⟩
  ·obtain rfl:=List.eq_nil_of_length_eq_zero hl
   exact qM F p pu u sw (by omega) hx s b L hL
  ·obtain rfl:=List.eq_nil_of_length_eq_zero hl
   exact qL F f v pu u sw hx s b L hL
  ·exact qK F l pu u sw (by omega) hx s b L hL ih
  ·exact qJ F l pu u sw (by omega) hx s b L hL ih
  ·match l,hl with
   | [x,y],_=>exact run27_5 F p x y pu u sw (by omega) hx s b L hL ih
end Go.Proofs.YtmehinfgdcmmjaaGreat
