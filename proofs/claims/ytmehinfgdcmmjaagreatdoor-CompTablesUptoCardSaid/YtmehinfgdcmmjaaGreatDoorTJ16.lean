/- A part of the proof. -/
import Derived.Test.YtmehinfgdcmmjaaGreatDoorTJ1
import Derived.Test.YtmehinfgdcmmjaaGreatDoorTJ6
import Derived.Test.YtmehinfgdcmmjaaGreatDoorTJ15
import Derived.Test.YtmehinfgdcmmjaaGreatDoorTJ13
namespace Go.Proofs.YtmehinfgdcmmjaaGreatDoor
open Go.Sx
set_option maxRecDepth 20000
set_option linter.unusedSimpArgs false
set_option linter.unusedVariables false
set_option maxHeartbeats 4000000
theorem nY (x y:Po.S):Qz Tryz.prog 150 [.agg x.av,.agg y.av] [hpB noHeap] fun r _=>r = .int .i64 (Po.cmpS x y):=by
 refine Qz.fits (K:=fun r m=>r = .int .i64 (Po.cmpS x y)) ?_ fun r m' h=>⟨r,_,rfl,Qw.eq rfl,h⟩
 have c0:=dl x.port y.port
 have k1:∀ b1 b2:Nat,Qz Tryz.prog 74 [.raw (.slice (some ((⟨b1,0,none⟩:Addr).add 1)) 4 4),.raw (.slice (some ((⟨b2,0,none⟩:Addr).add 1)) 4 4)] [hpB noHeap,⟨⟨b1,0,none⟩,x.av,.var 48⟩,⟨⟨b2,0,none⟩,y.av,.var 48⟩] fun r m=>r = .int .i64 (Po.cmpL [x.p0,x.p1,x.p2,x.p3] [y.p0,y.p1,y.p2,y.p3])∧m=[hpB noHeap,⟨⟨b1,0,none⟩,x.av,.var 48⟩,⟨⟨b2,0,none⟩,y.av,.var 48⟩]:=fun b1 b2 =>
  Qz.keep (pS (addF (addF noHeap ⟨b1,0,none⟩ (denL x.av)) ⟨b2,0,none⟩ (denL y.av)) (.slice (some ((⟨b1,0,none⟩:Addr).add 1)) 4 4) (.slice (some ((⟨b2,0,none⟩:Addr).add 1)) 4 4) [x.p0,x.p1,x.p2,x.p3] [y.p0,y.p1,y.p2,y.p3]
   (aI.mono addF.old (fun _ _ h=>h) (Po.part_row addF.new)) (Po.part_row addF.new) rfl (by simp)) rfl (Qw.freezeVar.trans Qw.freezeVar) rfl fun r mL' h=>⟨r,rfl,h.1,rfl⟩
 rw [Po.cmpS_L]
 generalize Po.cmpL [x.p0,x.p1,x.p2,x.p3] [y.p0,y.p1,y.p2,y.p3]=c2 at *
 generalize Po.cmpI x.port y.port=c1 at *
 have co:∀ b:Nat,Qz Tryz.prog 72 [.sl 0 (.slice (some ⟨b,0,none⟩) 2 2) 2] [⟨⟨b,0,none⟩,[.int .i64 c1,.int .i64 c2],.row (.slice (some ⟨b,0,none⟩) 2 2) 3 1 2⟩] fun r m=>r = .int .i64 (if c1≠0 then c1 else c2)∧m=[⟨⟨b,0,none⟩,[.int .i64 c1,.int .i64 c2],.row (.slice (some ⟨b,0,none⟩) 2 2) 3 1 2⟩]:=fun b=>oU _ _ c1 c2
 refine aB Tryz.func150 rfl (by decide) ?_
 obtain ⟨a0,a,b,c,d⟩:=x
 obtain ⟨a0',a',b',c',d'⟩:=y
 unfold Po.S.av at *
 simp only at *
 repeat' first|(intro K hK;(with_reducible refine gC ?_);first|refine cP c0 ?_|refine cS [0,1,2] (k1 _ _) ?_|refine cS [3] (co _) ?_)|(refine aJ [] ?_;try clear hK K)|refine sxW ?_ ?_<;>intro _|refine aK ?_ ?_|(intro K hK _;conv=>whnf)
 all_goals rfl
theorem nX (x y:Po.S) (W:World):Calls Tryz.prog 150 #[.agg x.vs.toArray,.agg y.vs.toArray] W fun e w'=>e = .returned (.int .i64 (Po.cmpS x y))∧∃ (q:Nat) (os:Array Obj),w'=Go.Sort.grow (W.drewN q) os:=by
 have h:=(aN.1 (nY x y)).2 W (gG W)
 have h:=kw h fun e w' ⟨r,m',_,he,_⟩=>⟨_,he⟩
 refine h.mono fun e w' ⟨⟨r,m',hr,he,_,hf,_⟩,hd⟩=>?_
 subst hr
 refine ⟨he,Fr.grow ⟨hf.os,hf.tape,hf.output,hf.size,fun k hk _=>hf.block k hk fun ⟨k',h1,h2,_⟩=>?_⟩ hd⟩
 rw [List.mem_singleton] at h1
 subst h1
 cases h2
theorem pz (v:Value) (t:TypeId) (L:List Po.S) (hl:L.length<4611686018427387904) :
  Qz Tryz.prog 70 [.sl 0 v L.length,.fn 150 [] []] [⟨addrOf v,Po.savs L,.row v t 5 L.length⟩] fun r m=>r = .tup []∧∃ L':List Po.S,L'.Perm L∧L'.Pairwise (fun x y=>¬ Po.ahead y x)∧m=[⟨addrOf v,Po.savs L',.row v t 5 L.length⟩]:=by
 rw [aN]
 refine ⟨Go.Sx.enters_of Tryz.func70 rfl (by decide),fun w hm=>?_⟩
 obtain ⟨⟨h1,h2⟩,h3⟩:=hm.holds _ (List.mem_singleton.2 rfl)
 rcases h2 with ⟨rfl,hn⟩ | ⟨g,cap,cur,rfl,_,hg,hle,hcap,hsz,htk⟩
 ·have e:L=[]:=List.length_eq_zero_iff.1 hn
  subst e
  refine (AnyF.slices_SortFunc_none Tryz.sortSent none 0 _ w).mono fun e w' ⟨he,hw⟩=>?_
  subst hw
  exact ⟨.tup [],_,⟨rfl,[],List.Perm.refl _,List.Pairwise.nil,rfl⟩,he,hm,Fr.refl _ _,Fresh.self _ _⟩
 ·rw [Po.savs_den] at htk
  have hlt:g<w.heap.size:=(Array.getElem?_eq_some_iff.1 hg).1
  have hH:Go.Sort.HoldsK Po.S.vs 5 w g 0 L.toArray:=by
   unfold Go.Sort.HoldsK
   rw [Po.flatK_eq]
   exact dU hg (by rw [Po.flat_len];exact htk)
  have eg:∀ args w,(callFunc 150 args).run Tryz.prog w = .ok (.enter 150 args) w:=Go.Sx.enters_of Tryz.func150 rfl (by decide)
  have hcmp:Go.Proofs.CmpLays Tryz.prog 150 #[] Po.S.vs 5 Po.cmpS g 0 L.toArray.size w:=fun m os dk _ x y=>by
   simpa using nX x y _
  refine (AnyQ.slices_SortFunc Tryz.sortSent 5 (fun w=>Go.Sx.run_isAgg (b:=true) (by kernel_rfl) w) (fun w=>Go.Sx.run_sizeOf (s:=5) (by kernel_rfl) w) Po.S.vs (fun _=>rfl) (fun x v hv=>by simp [Po.S.vs] at hv;rcases hv with rfl | rfl | rfl | rfl | rfl<;>rfl) Po.cmpS Po.swoS 150 #[] g 0 cap L.toArray w eg hcmp hH hlt (by simpa using hl)).mono fun e w' ⟨he,d',n,os,hp,hs,hw⟩=>?_
  have hperm:d'.toList.Perm L:=by
   have h4:=hp.2.2
   have e1:d'.extract 0 L.toArray.size=d':=by
    have:=hp.1
    rw [← this,Array.extract_size]
   rw [e1] at h4
   simpa using h4
  have hsort:d'.toList.Pairwise (fun x y=>¬ Po.ahead y x):=by
   rw [List.pairwise_iff_getElem]
   intro i j hi hj hij
   have hsz2:=hp.1
   have h4:=hs i j (Nat.zero_le _) hij (by rw [← hsz2];simpa using hj)
   rw [Po.lt_ahead,decide_eq_false_iff_not] at h4
   rw [getElem!_pos _ j (by simpa using hj),getElem!_pos _ i (by simpa using hi)] at h4
   simpa using h4
  have hlen:d'.toList.length=L.length:=hperm.length_eq
  have hw':w'=Go.Sort.grow (Go.Sort.putRow id (Go.Sort.ahead w n) g 0 (d'.toList.flatMap Po.S.vs).toArray) os:=by
   rw [hw]
   unfold Go.Proofs.sortWorldK Go.Sort.putRowK
   rw [show d'=d'.toList.toArray from rfl,Po.flatK_eq]
  have hgr:=dV (w:=w) (g:=g) (n:=n) (os:=os) (d'.toList.flatMap Po.S.vs).toArray
  have hhp:=ef (n:=n) (os:=os) (d'.toList.flatMap Po.S.vs).toArray hg
  rw [← hw'] at hgr hhp
  have hfl:(d'.toList.flatMap Po.S.vs).length=L.length*5:=by rw [Po.flat_len,hlen]
  have hown:w'.ownsRow 0 t 5 (.slice (some ⟨g,0,none⟩) L.length cap) L.length (denL (Po.savs d'.toList)):=by
   rw [Po.savs_den]
   exact ⟨by rw [hfl],.inr ⟨g,cap,_,rfl,Nat.zero_le _,hhp,hle,hcap,by simp [Go.Sort.putCells,hsz],by rw [← hfl];exact dX cur _ (by rw [hfl,hsz];exact Nat.mul_le_mul_right 5 hle)⟩⟩
  have hfr:=Fr.grown hgr
  refine ⟨.tup [],_,⟨rfl,d'.toList,hperm,hsort,rfl⟩,he,?_,?_,?_⟩
  ·exact hm.set (i:=0) (k:=⟨addrOf (.slice (some ⟨g,0,none⟩) L.length cap),Po.savs d'.toList,.row (.slice (some ⟨g,0,none⟩) L.length cap) t 5 L.length⟩) hfr.size rfl rfl
    (fun b hb hlt=>hfr.block b hlt fun e=>hb e) ⟨hown,rfl⟩ rfl (.inr (.inl rfl))
  ·exact ⟨hfr.os,hfr.tape,hfr.output,hfr.size,fun k hk hS=>hfr.block k hk fun e=>hS ⟨_,List.mem_singleton.2 rfl,rfl,e⟩⟩
  ·exact Fresh.set (i:=0) (Fresh.self _ _) (k:=⟨addrOf (.slice (some ⟨g,0,none⟩) L.length cap),Po.savs d'.toList,.row (.slice (some ⟨g,0,none⟩) L.length cap) t 5 L.length⟩) rfl fun b hb=>.inl ⟨_,List.mem_singleton.2 rfl,rfl,hb⟩
theorem gd (F:Heap) (v:Value) (l:List Po.S) (hv:Po.SRow F v l) (hl:l.length≤4611686018427387904) (hr:Po.Rising l) :
  Qz Tryz.prog 151 [.hs v l.length] [hpB F] fun r m=>r = .hs v l.length∧m=[hpB F]:=by
 have hok:=hv.ok
 refine aB Tryz.func151 rfl (by decide) ?_
 by_cases h2:l.length<2
 ·repeat' first|(refine sxZ ?_;try clear hK K)|refine sxW ?_ ?_<;>intro _|(intro K hK _;conv=>whnf)
  all_goals first | (exfalso;omega) | exact ⟨rfl,rfl⟩
 repeat' first|(refine sxZ ?_;try clear hK K)|refine sxW ?_ ?_<;>intro _|(intro K hK _;conv=>whnf)
 all_goals first | (exfalso;omega) | skip
 refine aE (α:=Nat) (fun k=>1≤k∧k≤l.length) (fun k=>[.k,.k,.d,.set (.int .i64 k),.d,.d,.k,.k,.k,.k,.d,.d,.d,.d,.d,.d,.d,.d,.d,.d,.d,.d,.d,.d,.d,.d,.d,.d,.d,.d,.d,.d,.d,.d,.d,.d,.d,.d,.d,.d,.d,.d,.d,.d,.d,.d,.d,.d,.d,.d,.d,.d,.d,.d,.d,.d,.d,.d,.d,.d,.k]) (fun _=>[]) (fun k=>l.length - k) 1 ⟨Nat.le_refl _,by omega⟩ ?_ (Qw.eq rfl) ?_
 ·exact aD
 (intro k ⟨hk1,hk⟩;intro K hK;(conv=>whnf);refine hK _ _ ?_;clear hK K)
 by_cases hlt:k<l.length
 ·have hlt2:k - 1<l.length:=by omega
  obtain ⟨g0,g1,g2,g3,g4⟩:=aI.get5 (f0:=fun s:Po.S=>.int .i64 s.port) (f1:=fun s=>.int .i64 s.p0) (f2:=fun s=>.int .i64 s.p1) (f3:=fun s=>.int .i64 s.p2) (f4:=fun s=>.int .i64 s.p3) hv hlt
  obtain ⟨e0,e1,e2,e3,e4⟩:=aI.get5 (f0:=fun s:Po.S=>.int .i64 s.port) (f1:=fun s=>.int .i64 s.p0) (f2:=fun s=>.int .i64 s.p1) (f3:=fun s=>.int .i64 s.p2) (f4:=fun s=>.int .i64 s.p3) hv hlt2
  have hah:Po.ahead l[k - 1] l[k]:=List.pairwise_iff_getElem.1 hr (k - 1) k hlt2 hlt (by omega)
  have hne:l[k]≠l[k - 1]:=fun e=>by rw [e] at hah;exact Po.ahead_irrefl _ hah
  clear hah hr
  generalize l[k]=x at *
  generalize l[k - 1]=y at *
  have en:((k:Int) - 1).toNat=k - 1:=by omega
  obtain ⟨xp,xa,xb,xc,xd⟩:=x
  obtain ⟨yp,ya,yb,yc,yd⟩:=y
  have hnb:(decide (xp=yp)&&(decide (xa=ya)&&(decide (xb=yb)&&(decide (xc=yc)&&(decide (xd=yd)&&true)))))=false:=by
   refine Bool.eq_false_iff.2 fun h=>hne ?_
   simp only [Bool.and_eq_true,decide_eq_true_eq,and_true] at h
   obtain ⟨rfl,rfl,rfl,rfl,rfl⟩:=h
   rfl
  dsimp only at *
  rw [← en] at e0 e1 e2 e3 e4
  repeat' first|((first|intro A B hA hB|intro K hK|skip);first|((with_reducible refine NIf.yes ?s ?_);(case s=>(rw [hnb];rfl));conv=>whnf)|((with_reducible refine NIf.no ?s ?_);(case s=>(rw [hnb];rfl));conv=>whnf))|(refine aJ [] ?_;(try clear hK K);try clear hA hB A B)|refine sxW ?_ ?_<;>intro _|refine aK ?_ ?_|(intro K hK _;conv=>whnf)
  refine aC (k+1) ⟨by omega,hlt⟩ (by omega) ?_ (Qw.eq rfl)
  exact aD
 ·repeat' first|(refine sxZ ?_;try clear hK K)|refine sxW ?_ ?_<;>intro _|(intro K hK _;conv=>whnf)
  all_goals first | (exfalso;omega) | exact ⟨rfl,rfl⟩
theorem pI (F:Heap) (v w:Value) (a b:List Po.S) (hv:Po.SRow F v a) (hw:Po.SRow F w b) (ha:a.length≤9223372036854775807) (hb:b.length≤9223372036854775807) :
  Qz Tryz.prog 154 [.hs v a.length,.hs w b.length] [hpB F] fun r m=>r = .bool (decide (a=b))∧m=[hpB F]:=by
 have hok:=hv.ok
 have hokw:=hw.ok
 refine aB Tryz.func154 rfl (by decide) ?_
 by_cases hl:a.length=b.length
 rotate_left
 ·repeat' first|(refine sxZ ?_;try clear hK K)|refine sxW ?_ ?_<;>intro _|(intro K hK _;conv=>whnf)
  exact ⟨eX (fun e=>hl (by rw [e])),rfl⟩
 repeat' first|(refine sxZ ?_;try clear hK K)|refine sxW ?_ ?_<;>intro _|(intro K hK _;conv=>whnf)
 refine aE (α:=Nat) (fun k=>k≤a.length∧∀ j,j<k→a[j]?=b[j]?) (fun k=>[.k,.k,.k,.k,.d,.d,.k,.k,.k,.k,.k,.k,.k,.set (.int .i64 k),.d,.d,.d,.d,.d,.d,.d,.d,.d,.d,.d,.d]) (fun _=>[]) (fun k=>a.length - k) 0 ⟨Nat.zero_le _,fun j hj=>absurd hj (Nat.not_lt_zero _)⟩ ?_ (Qw.eq rfl) ?_
 ·exact aD
 (intro k ⟨hk,hgone⟩;intro K hK;(conv=>whnf);refine hK _ _ ?_;clear hK K)
 by_cases hlt:k<a.length
 ·have hlt2:k<b.length:=by omega
  obtain ⟨g0,g1,g2,g3,g4⟩:=aI.get5 (f0:=fun s:Po.S=>.int .i64 s.port) (f1:=fun s=>.int .i64 s.p0) (f2:=fun s=>.int .i64 s.p1) (f3:=fun s=>.int .i64 s.p2) (f4:=fun s=>.int .i64 s.p3) hv hlt
  obtain ⟨e0,e1,e2,e3,e4⟩:=aI.get5 (f0:=fun s:Po.S=>.int .i64 s.port) (f1:=fun s=>.int .i64 s.p0) (f2:=fun s=>.int .i64 s.p1) (f3:=fun s=>.int .i64 s.p2) (f4:=fun s=>.int .i64 s.p3) hw hlt2
  have hx:a[k]?=some a[k]:=List.getElem?_eq_getElem hlt
  have hy:b[k]?=some b[k]:=List.getElem?_eq_getElem hlt2
  generalize a[k]=x at *
  generalize b[k]=y at *
  by_cases hxy:x=y
  ·subst hxy
   obtain ⟨xp,xa,xb,xc,xd⟩:=x
   dsimp only at *
   repeat' first|((first|intro A B hA hB|intro K hK|skip);first|((with_reducible refine NIf.yes ?s ?_);(case s=>simp ;done);conv=>whnf)|((with_reducible refine NIf.no ?s ?_);(case s=>simp ;done);conv=>whnf))|(refine aJ [] ?_;(try clear hK K);try clear hA hB A B)|refine sxW ?_ ?_<;>intro _|refine aK ?_ ?_|(intro K hK _;conv=>whnf)
   refine aC (k+1) ⟨hlt,fun j hj=>?_⟩ (by omega) ?_ (Qw.eq rfl)
   ·by_cases e:j=k
    ·subst e
     rw [hx,hy]
    ·exact hgone j (by omega)
   ·exact aD
  ·obtain ⟨xp,xa,xb,xc,xd⟩:=x
   obtain ⟨yp,ya,yb,yc,yd⟩:=y
   have hnb:(decide (xp=yp)&&(decide (xa=ya)&&(decide (xb=yb)&&(decide (xc=yc)&&(decide (xd=yd)&&true)))))=false:=by
    refine Bool.eq_false_iff.2 fun h=>hxy ?_
    simp only [Bool.and_eq_true,decide_eq_true_eq,and_true] at h
    obtain ⟨rfl,rfl,rfl,rfl,rfl⟩:=h
    rfl
   dsimp only at *
   repeat' first|((first|intro A B hA hB|intro K hK|skip);first|((with_reducible refine NIf.yes ?s ?_);(case s=>(rw [hnb];rfl));conv=>whnf)|((with_reducible refine NIf.no ?s ?_);(case s=>(rw [hnb];rfl));conv=>whnf))|(refine aJ [] ?_;(try clear hK K);try clear hA hB A B)|refine sxW ?_ ?_<;>intro _|refine aK ?_ ?_|(intro K hK _;conv=>whnf)
   exact ⟨eX (fun e=>hxy (by subst e;rw [hx] at hy;injection hy)),rfl⟩
 ·repeat' first|(refine sxZ ?_;try clear hK K)|refine sxW ?_ ?_<;>intro _|(intro K hK _;conv=>whnf)
  exact ⟨jp (eW hl fun j hj=>hgone j (by omega)),rfl⟩
theorem lm (v:Value) (t:TypeId) (l:List Po.S) (hl:l.length≤4611686018427387904) (hr:Po.Rising l) :
  Qz Tryz.prog 151 [.sl 0 v l.length] [⟨addrOf v,Po.savs l,.row v t 5 l.length⟩] fun r m=>r = .sl 0 v l.length∧m=[⟨addrOf v,Po.savs l,.row v t 5 l.length⟩] :=
 Qz.frozen (F:=noHeap) (enc:=Po.S.vs) (args':=[.hs v l.length]) (gd noHeap (.slice none 0 0) [] aI.nil (by simp) (by simp)) rfl (Qw.noHeap _) rfl (Po.savs_den l) (fun _ _=>rfl)
  fun G _ hG=>(gd G v l hG hl hr).fits fun r m' h=>⟨.sl 0 v l.length,_,by rw [h.1];rfl,Qw.eq rfl,rfl,rfl⟩
theorem og (F:Heap) (sw:Int) (y:Po.T) (pu u:Value) (a:Addr) (s:Po.S) (hs:Po.tot y≤4611686018427387904) (hf:Po.fits y=true) (hl:(Po.runs sw y s).length≤1000) (hy:Po.At F y pu u) (h8:CellsF F a 0 (denL (Po.cs y pu u++[.int .i64 sw]))) :
  Qz Tryz.prog 106 [.hp a 0,.agg [.int .i64 s.port,.int .i64 s.p0,.int .i64 s.p1,.int .i64 s.p2,.int .i64 s.p3,.raw (.slice none 0 0)]] [hpB F] fun r m=>Tr.Lay1 F ⟨s,Tr.outs sw y s⟩ r m:=by
 refine Tr.case_know (t:=48) ?_
 have cr:=qY F y pu u sw s hs hf (by omega) hy
 have hnd:=Tr.came_nodup sw y hf s
 have hmem:=Tr.outs_mem sw y s
 have hris:=Tr.outs_rising sw y s
 have hol:=Tr.outs_len sw y s
 generalize Po.runs sw y s=R at *
 generalize Tr.outs sw y s=O at *
 have hLR:(R.map (Tr.cameS s)).length=R.length:=List.length_map _
 have hnx:∀ i (h:i<R.length),Po.savs ((R.map (Tr.cameS s)).take (i+1))=Po.savs ((R.map (Tr.cameS s)).take i)++(Tr.cameS s R[i]).av:=fun i h=>by
  rw [List.take_add_one,List.getElem?_map,List.getElem?_eq_getElem h,Po.savs_append]
  simp [Po.savs]
 generalize R.map (Tr.cameS s)=L at *
 have hsc:∀ (w:Value) (L2:List Po.S),L2.Perm L→L2.Pairwise (fun x y=>¬ Po.ahead y x)→Qz Tryz.prog 151 [.sl 0 w L.length] [⟨addrOf w,Po.savs L2,.row w 48 5 L.length⟩] fun r m=>r = .sl 0 w L.length∧m=[⟨addrOf w,Po.savs O,.row w 48 5 O.length⟩]:=fun w L2 hp2 hs2=>by
  have e:=Po.sorted_eq hp2 hnd hs2 hris hmem
  subst e
  rw [← hp2.length_eq]
  exact lm w _ L2 (by omega) hris
 have hL1000:L.length≤1000:=by omega
 obtain ⟨pA,pcap,hpv,hple,hpz⟩:=hy.p.ok
 obtain ⟨A,cap,hv,hle,hz⟩:=hy.l.ok
 clear hf hs hy
 obtain ⟨yk,⟨ypk,ypf,ypv,ypl⟩,yf,yv,yl⟩:=y
 obtain ⟨s0,s1,s2,s3,s4⟩:=s
 simp only [Po.cs,Po.T.k,Po.T.p,Po.T.f,Po.T.v,Po.T.l,Pd.T.k,Pd.T.f,Pd.T.v,Pd.T.l,Tr.cs] at *
 subst hpv hv
 obtain ⟨c0,c1,c2,c3,c4,c5,c6,c7,c8,_⟩:=h8
 refine Qz.pre (mL:=[hpB F,hpB F]) ?_ rfl (Qw.dup F.le_refl [])
 refine aB Tryz.func106 rfl (by decide) ?_
 repeat' first|((try intro K hK);(with_reducible refine gC ?_);(refine cN [1] cr ?_;rintro _ _ ⟨F1,v1,hle1,hv1,rfl,rfl⟩;refine cR ?_))|((try intro K hK);(with_reducible refine NH.mk ?s ?_);(case s=>(and_intros<;>first|with_reducible rfl|omega|(first | exact hv1.ok | rfl)));conv=>whnf)|(refine aJ [1] ?_;try clear hK K)|refine sxW ?_ ?_<;>intro _|refine aK ?_ ?_|(intro K hK _;conv=>whnf)
 have hok1:=hv1.ok
 clear cr c0 c1 c2 c3 c4 c5 c6 c7 c8 hz hpz hle hple hmem hnd hris hol
 refine aE (α:=Value × Nat) (fun (w,i)=>i≤L.length) (fun (w,i)=>[.d,.d,.k,.k,.k,.k,.d,.d,.d,.d,.d,.d,.d,.d,.d,.d,.d,.d,.d,.d,.k,.k,.set (.int .i64 i),.d,.d,.d,.d,.d,.d,.d,.d,.d,.d,.d,.d,.d,.d,.d,.d,.d,.d,.d,.d,.d,.d,.d,.d,.d,.d,.k,.k,.k,.k,.k,.k,.k,.k])
  (fun (w,i)=>[.set (hpB F1),.set (hpB noHeap),.cells [.int .i64 s0,.int .i64 s1,.int .i64 s2,.int .i64 s3,.int .i64 s4,.sl 4 w i],.k,.set ⟨addrOf w,Po.savs (L.take i),.row w 48 5 i⟩]) (fun (w,i)=>L.length - i) (.slice none 0 0,0) (Nat.zero_le _) ?_ ?_ ?_
 ·exact aD
 ·refine ((Qw.pick (m':=[hpB F1,_,_]) [1,2,3] (by decide) rfl).trans ((Qw.noHeap _).trans (Qw.pick (m':=[_,_,_,_]) [1,0,2,3] (by decide) rfl))).trans ?_
  exact (Qw.nilRow _ 48 5).trans (Qw.congr rfl)
 (intro ⟨w,i⟩ hi;intro K hK;(conv=>whnf);refine hK _ _ ?_;clear hK K)
 dsimp only
 by_cases hlt:i<R.length
 ·obtain ⟨g0,g1,g2,g3,g4⟩:=aI.get5 (f0:=fun s:Po.S=>.int .i64 s.port) (f1:=fun s=>.int .i64 s.p0) (f2:=fun s=>.int .i64 s.p1) (f3:=fun s=>.int .i64 s.p2) (f4:=fun s=>.int .i64 s.p3) hv1 hlt
  have hnx:=hnx i hlt
  have hln:(Po.savs (L.take i)).length=i*5:=by
   rw [Po.savs_len,List.length_take,Nat.min_eq_left (by omega)]
  have cc:=fun n k=>pV n k
  clear hsc
  generalize R[i]=x at *
  generalize hA:Po.savs (L.take i)=sv at *
  obtain ⟨x0,x1,x2,x3,x4⟩:=x
  simp only [Po.S.av,Tr.cameS] at *
  repeat' first|((try intro K hK);(with_reducible refine gC ?_);refine cP (cc _ _) ?_)|((with_reducible refine gX ?_);with_reducible refine bQ 5 ?_)|(refine aJ [5] ?_;try clear hK K)|refine sxW ?_ ?_<;>intro _|refine aK ?_ ?_|(intro K hK _;conv=>whnf)
  all_goals
   rename_i v9
   refine aC (v9,i+1) (by show i+1≤L.length;omega) (by show L.length - (i+1)<L.length - i;omega) ?_ (Qw.pre 5 ?_)
   ·exact aD
   ·simp only [autoM,hnx]
    rfl
 ·obtain rfl:i=L.length:=by omega
  rw [List.take_length]
  repeat' first|(intro K hK;(with_reducible refine gC ?_);first|(refine cN [4] (pz w 48 L (by omega)) ?_;rintro _ _ ⟨rfl,L2,hp2,hs2,rfl⟩;refine cR ?_)|refine cS [4] (hsc w L2 hp2 hs2) ?_)|(refine sxZ ?_;try clear hK K)|refine sxW ?_ ?_<;>intro _|(intro K hK _;conv=>whnf)
  all_goals exact ⟨F1,w,hle1,rfl,Qw.pick [0,4] (by decide) rfl⟩
namespace Tr
theorem alike_iff (f:Int) (a b:List C):alike f a b=true↔a.length=b.length∧∀ (k:Nat) (x y:C),a[k]?=some x→b[k]?=some y→free f x=free f y:=by
 unfold alike
 rw [decide_eq_true_eq]
 constructor
 ·intro h
  refine ⟨by simpa using congrArg List.length h,fun k x y hx hy=>?_⟩
  have:=congrArg (fun l=>l[k]?) h
  simpa [hx,hy] using this
 ·rintro ⟨h1,h2⟩
  apply List.ext_getElem?
  intro k
  rw [List.getElem?_map,List.getElem?_map]
  by_cases hk:k<a.length
  ·rw [List.getElem?_eq_getElem hk,List.getElem?_eq_getElem (by omega)]
   exact congrArg some (h2 k _ _ (List.getElem?_eq_getElem hk) (List.getElem?_eq_getElem (by omega)))
  ·rw [List.getElem?_eq_none (by omega),List.getElem?_eq_none (by omega)]
end Tr
theorem pJ (F:Heap) (f:Int) (v w:Value) (a b:List Tr.C) (hv:Tr.Row F v a) (hw:Tr.Row F w b) (ha:a.length≤4611686018427387904) (hb:b.length≤4611686018427387904) (g:FuncId) (captured:List AV)
  (hg:∀ x∈a,∀ y∈b,∀ A B,Po.SRow F A x.out→Po.SRow F B y.out→Qz Tryz.prog g ([.agg (Tr.cs x A),.agg (Tr.cs y B)]++captured) [hpB F] fun r m=>r = .bool (decide (Tr.free f x=Tr.free f y))∧m=[hpB F]) :
  Qz Tryz.prog 152 [.hs v a.length,.hs w b.length,.fn g [] captured] [hpB F] fun r m=>r = .bool (Tr.alike f a b)∧m=[hpB F]:=by
 refine Qz.fits (K:=fun r m=>r = .bool (Tr.alike f a b)∧Qw m [hpB F]) ?_ fun r m' h=>⟨r,_,rfl,h.2,h.1,rfl⟩
 have hok:=hv.ok
 have hok2:=hw.ok
 have hs:=Tr.alike_iff f a b
 refine aB Tryz.func152 rfl (by decide) ?_
 by_cases hl:a.length=b.length
 ·repeat' first|(refine sxZ ?_;try clear hK K)|refine sxW ?_ ?_<;>intro _|(intro K hK _;conv=>whnf)
  refine aE (α:=Nat) (fun k=>k≤a.length∧∀ (j:Nat) (x y:Tr.C),j<k→a[j]?=some x→b[j]?=some y→Tr.free f x=Tr.free f y) (fun k=>[.k,.k,.k,.k,.k,.k,.d,.d,.d,.d,.k,.k,.k,.k,.k,.k,.k,.set (.int .i64 k),.d,.d,.d,.d,.d,.d,.d,.d,.d,.d,.d,.d,.d,.d]) (fun _=>[]) (fun k=>a.length - k) 0 ⟨Nat.zero_le _,fun j x y hj=>absurd hj (Nat.not_lt_zero _)⟩ ?_ (Qw.eq rfl) ?_
  ·exact aD
  (intro k ⟨hk,hgone⟩;intro K hK;(conv=>whnf);refine hK _ _ ?_;clear hK K)
  by_cases hlt:k<a.length
  ·have hx:a[k]?=some a[k]:=List.getElem?_eq_getElem hlt
   have hy:b[k]?=some (b[k]'(by omega)):=List.getElem?_eq_getElem (by omega)
   obtain ⟨A,cap,hA,c0,c1,c2,c3,c4,c5⟩:=hv.get hx
   obtain ⟨B,cap',hB,d0,d1,d2,d3,d4,d5⟩:=hw.get hy
   have c:=hg _ (List.mem_of_getElem? hx) _ (List.mem_of_getElem? hy) _ _ hA hB
   have hoA:=hA.ok
   have hoB:=hB.ok
   clear hg hA hB
   generalize a[k]=x at *
   generalize (b[k]'(by omega))=y at *
   generalize hq:decide (Tr.free f x=Tr.free f y)=q at *
   obtain ⟨⟨x0,x1,x2,x3,x4⟩,xo⟩:=x
   obtain ⟨⟨y0,y1,y2,y3,y4⟩,yo⟩:=y
   simp only [Tr.cs,List.cons_append,List.nil_append] at c c0 c1 c2 c3 c4 c5 d0 d1 d2 d3 d4 d5 hoA hoB
   cases q with
   | true =>
    repeat' first|(intro K hK;(with_reducible refine gC ?_);refine cS [0] c ?_)|(refine sxZ ?_;try clear hK K)|refine sxW ?_ ?_<;>intro _|(intro K hK _;conv=>whnf)
    refine aC (k+1) ⟨hlt,fun j x' y' hj h1 h2=>?_⟩ (by omega) ?_ (Qw.pre 1 rfl)
    ·by_cases e:j=k
     ·subst e
      rw [hx] at h1
      rw [hy] at h2
      injection h1 with h1
      injection h2 with h2
      rw [← h1,← h2];exact of_decide_eq_true hq
     ·exact hgone j x' y' (by omega) h1 h2
    ·exact aD
   | false =>
    have hne:Tr.alike f a b=false:=by
     cases h:Tr.alike f a b with
     | false=>rfl
     | true=>exact absurd ((hs.1 h).2 k _ _ hx hy) (of_decide_eq_false hq)
    rw [hne]
    repeat' first|(intro K hK;(with_reducible refine gC ?_);refine cS [0] c ?_)|(refine sxZ ?_;try clear hK K)|refine sxW ?_ ?_<;>intro _|(intro K hK _;conv=>whnf)
    all_goals exact ⟨rfl,Qw.pre 1 rfl⟩
  ·have hy:Tr.alike f a b=true:=hs.2 ⟨hl,fun j x y h1 h2=>hgone j x y (by have:=(List.getElem?_eq_some_iff.1 h1).1;omega) h1 h2⟩
   rw [hy]
   repeat' first|(refine sxZ ?_;try clear hK K)|refine sxW ?_ ?_<;>intro _|(intro K hK _;conv=>whnf)
   all_goals exact ⟨rfl,Qw.pre 1 rfl⟩
 ·have hne:Tr.alike f a b=false:=by
   cases h:Tr.alike f a b with
   | false=>rfl
   | true=>exact (hl (hs.1 h).1).elim
  rw [hne]
  repeat' first|(refine sxZ ?_;try clear hK K)|refine sxW ?_ ?_<;>intro _|(intro K hK _;conv=>whnf)
  all_goals exact ⟨rfl,Qw.pre 1 rfl⟩
theorem pg (F:Heap) (f:Int) (hf:Tr.ok f) (x y:Tr.C) (A B:Value) (hA:Po.SRow F A x.out) (hB:Po.SRow F B y.out) (ha:x.out.length≤1000) (hb:y.out.length≤1000) (b:Addr) (hc:F.c (b.add 0) (.int .i64 f)) :
  Qz Tryz.prog 153 [.agg (Tr.cs x A),.agg (Tr.cs y B),.hp b 0] [hpB F] fun r m=>r = .bool (decide (Tr.free f x=Tr.free f y))∧m=[hpB F]:=by
 refine Qz.fits (K:=fun r m=>r = .bool (decide (Tr.free f x=Tr.free f y))∧Qw m [hpB F]) ?_ fun r m' h=>⟨r,_,rfl,h.2,h.1,rfl⟩
 have ce:=pI F A B x.out y.out hA hB (by omega) (by omega)
 have w1:=jP x.s f (-1) A x.out.length hf
 have w2:=jP y.s f (-1) B y.out.length hf
 have hoA:=hA.ok
 have hoB:=hB.ok
 have hfr:Tr.free f x=Tr.free f y↔Tr.withK f (-1) x.s=Tr.withK f (-1) y.s∧x.out=y.out:=by unfold Tr.free;simp only [Tr.C.mk.injEq]
 rw [show decide (Tr.free f x=Tr.free f y)=(decide (Tr.withK f (-1) x.s=Tr.withK f (-1) y.s)&&decide (x.out=y.out)) by simp [hfr]]
 clear hfr hA hB
 generalize Tr.withK f (-1) x.s=X at *
 generalize Tr.withK f (-1) y.s=Y at *
 obtain ⟨⟨x0,x1,x2,x3,x4⟩,xo⟩:=x
 obtain ⟨⟨y0,y1,y2,y3,y4⟩,yo⟩:=y
 simp only [Tr.cs] at *
 generalize decide (xo=yo)=q at *
 refine aB Tryz.func153 rfl (by decide) ?_
 by_cases hXY:X=Y
 ·subst hXY
  obtain ⟨X0,X1,X2,X3,X4⟩:=X
  simp only at w1 w2
  repeat' first|((try intro K hK);(with_reducible refine gC ?_);first|refine cP w1 ?_|refine cP w2 ?_|refine cS [0] ce ?_)|((first|intro A B hA hB|intro K hK|skip);first|((with_reducible refine NIf.yes ?s ?_);(case s=>simp ;done);conv=>whnf)|((with_reducible refine NIf.no ?s ?_);(case s=>simp ;done);conv=>whnf))|(refine aJ [1,2] ?_;(try clear hK K);try clear hA hB A B)|refine sxW ?_ ?_<;>intro _|refine aK ?_ ?_|(intro K hK _;conv=>whnf)
  all_goals exact ⟨by simp,Qw.pre 1 rfl⟩
 ·obtain ⟨X0,X1,X2,X3,X4⟩:=X
  obtain ⟨Y0,Y1,Y2,Y3,Y4⟩:=Y
  rw [decide_eq_false hXY]
  simp only at w1 w2
  by_cases hp:X0=Y0
  ·have hnb:(decide (X1=Y1)&&(decide (X2=Y2)&&(decide (X3=Y3)&&(decide (X4=Y4)&&true))))=false:=by
    refine Bool.eq_false_iff.2 fun h=>hXY ?_
    simp only [Bool.and_eq_true,decide_eq_true_eq,and_true] at h
    obtain ⟨rfl,rfl,rfl,rfl⟩:=h
    rw [hp]
   repeat' first|((try intro K hK);(with_reducible refine gC ?_);first|refine cP w1 ?_|refine cP w2 ?_|refine cS [0] ce ?_)|((first|intro A B hA hB|intro K hK|skip);first|((with_reducible refine NIf.yes ?s ?_);(case s=>(rw [hnb];rfl));conv=>whnf)|((with_reducible refine NIf.no ?s ?_);(case s=>(rw [hnb];rfl));conv=>whnf))|(refine aJ [1,2] ?_;(try clear hK K);try clear hA hB A B)|refine sxW ?_ ?_<;>intro _|refine aK ?_ ?_|(intro K hK _;conv=>whnf)
   all_goals first | (exfalso;omega) | exact ⟨by simp,Qw.pre 1 rfl⟩
  ·repeat' first|(intro K hK;(with_reducible refine gC ?_);first|refine cP w1 ?_|refine cP w2 ?_|refine cS [0] ce ?_)|(refine aJ [1,2] ?_;try clear hK K)|refine sxW ?_ ?_<;>intro _|refine aK ?_ ?_|(intro K hK _;conv=>whnf)
   all_goals first | (exfalso;omega) | exact ⟨by simp,Qw.pre 1 rfl⟩
theorem nl (F:Heap) (f:Int) (hf:Tr.ok f) (v w:Value) (a b:List Tr.C) (hv:Tr.Row F v a) (hw:Tr.Row F w b) (ha:a.length≤4611686018427387904) (hb:b.length≤4611686018427387904) (ha2:∀ c∈a,c.out.length≤1000) (hb2:∀ c∈b,c.out.length≤1000) :
  Qz Tryz.prog 108 [.hs v a.length,.hs w b.length,.int .i64 f] [hpB F] fun r m=>r = .bool (Tr.alike f a b)∧m=[hpB F]:=by
 refine Qz.fits (K:=fun r m=>r = .bool (Tr.alike f a b)∧Qw m [hpB F]) ?_ fun r m' h=>⟨r,_,rfl,h.2,h.1,rfl⟩
 have kE:∀ c:Nat,Qz Tryz.prog 152 [.hs v a.length,.hs w b.length,.fn 153 [] [.ptr 1 ⟨c,0,none⟩ 0]] [hpB F,⟨⟨c,0,none⟩,[.int .i64 f],.var 3⟩] fun r m=>r = .bool (Tr.alike f a b)∧m=[hpB F,⟨⟨c,0,none⟩,[.int .i64 f],.var 3⟩]:=fun c=>by
  have hnew:=addF.new (F:=F) (a:=⟨c,0,none⟩) (vs:=denL [.int .i64 f])
  obtain ⟨d0,_⟩:=hnew
  exact Qz.keep (pJ (addF F ⟨c,0,none⟩ (denL [.int .i64 f])) f v w a b (Tr.Row.mono addF.old hv) (Tr.Row.mono addF.old hw) ha hb 153 [.hp ⟨c,0,none⟩ 0] fun x hx y hy A B hA hB=>pg _ f hf x y A B hA hB (ha2 x hx) (hb2 y hy) _ d0) rfl (Qw.freezeVar (m:=[])) rfl fun r mL' h=>⟨r,rfl,h.1,rfl⟩
 have hok:=hv.ok
 have hok2:=hw.ok
 refine aB Tryz.func108 rfl (by decide) ?_
 repeat' first|(intro K hK;(with_reducible refine gC ?_);refine cS [0,1] (kE _) ?_)|(refine sxZ ?_;try clear hK K)|refine sxW ?_ ?_<;>intro _|(intro K hK _;conv=>whnf)
 all_goals exact ⟨rfl,Qw.pre 1 rfl⟩
end Go.Proofs.YtmehinfgdcmmjaaGreatDoor
