import Derived.Test.YtaolcaggdddkpaaGreatJ13
import Derived.Test.YtaolcaggdddkpaaGreatJ4
namespace Go.Proofs.YtaolcaggdddkpaaGreat
open Go.Sx
set_option maxRecDepth 20000
set_option linter.unusedSimpArgs false
set_option linter.unusedVariables false
set_option maxHeartbeats 4000000
theorem run27_3 (F:Heap) (l:List Po.T) (pu u:Value) (sw:Int) (hln:l.length≤1000) (hx:Po.At F (.mk 3 Po.noneP 0 0 l) pu u) (s:Po.S) (b:Nat) (L:List Po.S) (hL:L.Nodup)
  (ih:∀ y∈l,∀ pw w,Po.At F y pw w→∀ (s:Po.S) (b:Nat) (L:List Po.S),L.Nodup→NCall Tryz.prog 43 [.raw (.map (some b)),.agg (Po.cs y pw w),.int .i64 sw,.agg s.av] [hpB F,mapB b (Po.sM L)] fun r m=>Po.doneR F b L (fun t=>t∈Po.runs sw y s) r m) :
  NCall Tryz.prog 43 [.raw (.map (some b)),.agg (Po.cs (.mk 3 Po.noneP 0 0 l) pu u),.int .i64 sw,.agg s.av] [hpB F,mapB b (Po.sM L)] fun r m=>Po.doneR F b L (fun t=>t∈Po.runs sw (.mk 3 Po.noneP 0 0 l) s) r m:=by
 refine NCall.fits (K:=fun r m=>∃ L':List Po.S,L'.Nodup∧(∀ t,t∈L'↔t∈L∨t∈Po.runs sw (.mk 3 Po.noneP 0 0 l) s)∧r = .tup []∧MemFits m [hpB F,mapB b (Po.sM L')]) ?_ fun r m' ⟨L',h1,h2,h3,h4⟩=>⟨r,_,rfl,h4,L',h1,h2,h3,rfl⟩
 have hrow:Po.Row F u l:=hx.l
 have hok:=hrow.ok
 have hpok:SlOk pu 0:=hx.p.ok
 have hr:=Po.runs_mk sw 3 Po.noneP 0 0 l s
 rw [if_neg (by decide),if_neg (by decide),if_pos rfl] at hr
 rw [hr]
 clear hr hx
 have hu:Tryz.prog.underlying 86=some (.map 56 92):=by kernel_rfl
 have hkey:(AV.agg s.av).den=s.key:=rfl
 have ih:∀ y∈l,∀ pw w,Po.At F y pw w→∀ (t:Po.S) (b:Nat) (L:List Po.S),L.Nodup→NCall Tryz.prog 43 [.raw (.map (some b)),.agg (Po.cs y pw w),.int .i64 sw,.agg [.int .i64 t.port,.int .i64 t.p0,.int .i64 t.p1,.int .i64 t.p2,.int .i64 t.p3]] [hpB F,mapB b (Po.sM L)] fun r m=>∃ L':List Po.S,L'.Nodup∧(∀ q,q∈L'↔q∈L∨q∈Po.runs sw y t)∧r = .tup []∧m=[hpB F,mapB b (Po.sM L')]:=fun y hy pw w hA t b L hL=>ih y hy pw w hA t b L hL
 have h0:Po.runsQ sw (l.take 0) [s]=[s]:=by rw [List.take_zero,Po.runsQ]
 have hnxt:∀ (k:Nat) (h:k<l.length) (q:Po.S),q∈Po.runsQ sw (l.take (k+1)) [s]↔∃ t∈Po.runsQ sw (l.take k) [s],q∈Po.runs sw l[k] t:=fun k h q=>by rw [Po.runsQ_take sw h];exact Po.mem_then sw l[k] q _
 have hend:Po.runsQ sw (l.take l.length) [s]=Po.runsQ sw l [s]:=by rw [List.take_length]
 rw [← hend]
 clear hend
 generalize hQ:(fun k=>Po.runsQ sw (l.take k) [s])=Q at *
 have hQ':∀ k,Po.runsQ sw (l.take k) [s]=Q k:=fun k=>by rw [← hQ]
 simp only [hQ'] at h0 hnxt ⊢
 clear hQ hQ'
 have hcopy:=fun (b1:Nat) (N:List Po.S)=>copy27_c b b1 L N hL
 have hs1:∀ q,q∈Po.add [] s↔q∈Q 0:=fun q=>by rw [Po.mem_add,h0];simp
 have hs2:(Po.add [] s).Nodup:=Po.add_nodup List.nodup_nil s
 clear h0
 rw [po_cs]
 unfold Po.noneP
 obtain ⟨a0,a,b',c,d⟩:=s
 simp only [pd_cs,Pd.T.k,Pd.T.f,Pd.T.v,Pd.T.l,Po.S.av,List.length_nil] at *
 refine ncall_of Tryz.func43 rfl (by decide) ?_
 generalize hR:Po.runs sw=R at *
 clear hR
 (repeat' (first|(with_reducible first|(refine hK _ _ ?_;clear hK K)|(refine hA ?_;clear hA hB A B)|(refine hB ?_;clear hA hB A B)|(refine hK _ ?_;clear hK K))|((with_reducible refine z25 ?_);intro K hK;(conv=>whnf))|(with_reducible refine z0 ?_)|((first|((with_reducible refine NIf.decY ?s ?_);case s=>with_reducible rfl)|((with_reducible refine NIf.decN ?s ?_);case s=>omega)|(with_reducible refine NN.a5 ?_)|((with_reducible refine NH.mk ?s ?_);case s=>(and_intros<;>first|with_reducible rfl|omega)))<;>(conv=>whnf))|((with_reducible refine gMap ?_);refine NMap.make fun b1=>?_;conv=>whnf)|((with_reducible refine gMap ?_);refine sent_upd (j:=4) (L:=[]) hu rfl hkey rfl ?_;conv=>whnf)|(with_reducible first|refine z3 ?_|refine z4 ?_|refine z5 ?_)|((with_reducible refine z29 ?_);intro A B hA hB;(conv=>whnf))|(with_reducible first|refine z1 ?_|refine z2 ?_)|((with_reducible refine gF ?_);(refine z33 rfl ?_;intro K hK;(conv=>whnf)))|((intro _;skip)<;>(conv=>whnf))))
 refine st_auto (α:=Nat × List Po.S × Nat) (fun (i,N,b2)=>i≤l.length∧N.Nodup∧∀ q,q∈N↔q∈Q i) (fun (i,N,b2)=>[.keep,.keep,.keep,.keep,.keep,.keep,.keep,.keep,.keep,.keep,.keep,.set (.raw (.map (some b2))),.keep,.drop,.drop,.drop,.keep,.keep,.keep,.keep,.keep,.keep,.keep,.keep,.keep,.keep,.keep,.keep,.keep,.keep,.keep,.keep,.keep,.keep,.keep,.keep,.keep,.keep,.keep,.keep,.keep,.keep,.keep,.keep,.keep,.keep,.keep,.keep,.keep,.keep,.keep,.keep,.keep,.keep,.keep,.keep,.keep,.keep,.keep,.keep,.keep,.keep,.keep,.keep,.keep,.keep,.keep,.keep,.keep,.keep,.keep,.keep,.keep,.keep,.keep,.keep,.keep,.keep,.keep,.keep,.keep,.set (.int .i64 i),.drop,.drop,.drop,.drop,.drop,.drop,.drop,.drop,.drop,.drop,.drop,.drop,.drop,.drop,.drop,.drop,.drop,.keep,.keep,.keep]) (fun (i,N,b2)=>[.keep,.keep,.keep,.keep,.set (mapB b2 (Po.sM N))]) (fun (i,N,b2)=>l.length - i) (0,Po.add [] ⟨a0,a,b',c,d⟩,b1) ⟨Nat.zero_le _,hs2,hs1⟩ ?_ ?_ ?_
 ·repeat (first|exact FitsSl.nil|refine FitsSl.any ?_|refine FitsSl.cons (Fit1.int (by first | rfl | omega)) ?_|refine FitsSl.cons (Fit1.bool rfl) ?_|refine FitsSl.cons (Fit1.same (by intro h;cases h) (by with_reducible rfl)) ?_)
 ·exact MemFits.eq rfl
 (intro ⟨i,N,b2⟩ ⟨hi,hn,hm⟩;intro K hK;(conv=>whnf);refine hK _ _ ?_;clear hK K)
 dsimp only
 by_cases hlt:i<l.length
 ·have hx:l[i]?=some l[i]:=List.getElem?_eq_getElem hlt
  obtain ⟨pA,pcap,A,cap,hA,c0,c1,c2,c3,c4,c5,c6,c7⟩:=hrow.get hx
  have hAo:=hA.l.ok
  have hAp:=hA.p.ok
  have cc:=ih _ (List.mem_of_getElem? hx) _ _ hA
  have hnx:=hnxt i hlt
  clear ih hnxt hcopy
  generalize l[i]=y at *
  generalize hRy:R y=Ry at *
  clear hRy
  obtain ⟨yk,⟨ypk,ypf,ypv,ypl⟩,yf,yv,yl⟩:=y
  simp only [Po.cs,Po.T.k,Po.T.p,Po.T.f,Po.T.v,Po.T.l,Pd.T.k,Pd.T.f,Pd.T.v,Pd.T.l] at cc c0 c1 c2 c3 c4 c5 c6 c7 hAo hAp
  (repeat' (first|(with_reducible first|(refine hK _ _ ?_;clear hK K)|(refine hA ?_;clear hA hB A B))|((with_reducible refine z25 ?_);intro K hK;(conv=>whnf))|(with_reducible refine z0 ?_)|((first|((with_reducible refine NIf.decY ?s ?_);case s=>omega)|(with_reducible first|refine NN.cast ?_|refine NN.keep ?_)|((with_reducible refine NH.mk ?s ?_);case s=>(and_intros<;>first|with_reducible rfl|((with_reducible refine gOnes ?_);rfl)|((with_reducible refine gLen ?_);rfl)|omega))|(with_reducible refine NLd.of (by with_reducible assumption) ?_))<;>(conv=>whnf))|((with_reducible refine gMap ?_);refine NMap.make fun b3=>?_;conv=>whnf)|((with_reducible refine gMap ?_);refine sent_range (N:=N) hu (MapIn.own (j:=4) rfl) fun c9=>?_;conv=>whnf)|(with_reducible first|refine z3 ?_|refine z4 ?_|refine z5 ?_|refine z6 ?_)|((with_reducible refine z29 ?_);intro A B hA hB;(conv=>whnf))|(with_reducible first|refine z1 ?_|refine z2 ?_)|((intro _;skip)<;>(conv=>whnf))))
  refine st_auto (α:=Array Nat × List Po.S) (fun (seen,N2)=>N2.Nodup∧∀ q,q∈N2↔∃ t,Po.come N seen t∧q∈Ry t) (fun (seen,N2)=>[.keep,.keep,.keep,.keep,.keep,.keep,.keep,.keep,.keep,.keep,.keep,.keep,.keep,.keep,.keep,.drop,.keep,.keep,.keep,.keep,.keep,.keep,.keep,.keep,.keep,.keep,.keep,.keep,.keep,.keep,.keep,.keep,.keep,.keep,.keep,.keep,.keep,.keep,.keep,.keep,.keep,.keep,.keep,.keep,.keep,.keep,.keep,.keep,.keep,.keep,.keep,.keep,.keep,.keep,.keep,.keep,.keep,.keep,.keep,.keep,.keep,.keep,.keep,.keep,.keep,.keep,.keep,.keep,.keep,.keep,.keep,.keep,.keep,.keep,.keep,.keep,.keep,.keep,.keep,.keep,.keep,.keep,.keep,.keep,.keep,.keep,.keep,.keep,.drop,.drop,.drop,.drop,.drop,.drop,.drop,.drop,.drop,.keep,.keep,.keep,.keep,.keep]) (fun (seen,N2)=>[.keep,.keep,.keep,.keep,.keep,.keep,.set (mapB b3 (Po.sM N2)),.set (itB c9 b2 N.length seen)]) (fun (seen,N2)=>Po.left N.length seen) (#[],[]) ⟨List.nodup_nil,fun q=>⟨fun h=>(List.not_mem_nil h).elim,fun ⟨t,h,_⟩=>absurd h Po.come_none⟩⟩ ?_ ?_ ?_
  ·repeat (first|exact FitsSl.nil|refine FitsSl.any ?_|refine FitsSl.cons (Fit1.int (by first | rfl | omega)) ?_|refine FitsSl.cons (Fit1.bool rfl) ?_|refine FitsSl.cons (Fit1.same (by intro h;cases h) (by with_reducible rfl)) ?_)
  ·exact MemFits.eq rfl
  (intro ⟨seen,N2⟩ ⟨hn2,hm2⟩;intro K hK;(conv=>whnf);refine hK _ _ ?_;clear hK K)
  dsimp only
  (repeat' (first|(with_reducible first|(refine hK _ _ ?_;clear hK K)|(refine hA ?_;clear hA hB A B)|(refine hB ?_;clear hA hB A B))|((with_reducible refine gO ?_);(first|((with_reducible refine z25 ?_);intro K hK;(conv=>whnf))|(with_reducible refine z0 ?_)))|((first|((with_reducible refine gV ?_);(((with_reducible refine NV.i64 ?s ?_);case s=>omega)))|((with_reducible refine gI ?_);(first|((with_reducible refine NIf.yes ?s ?_);case s=>rfl)|((with_reducible refine NIf.no ?s ?_);case s=>rfl)))|((with_reducible refine gH ?_);((with_reducible refine NH.mk ?s ?_);case s=>(and_intros<;>first|with_reducible rfl|((with_reducible refine gOnes ?_);rfl)|((with_reducible refine gLen ?_);rfl))))|((with_reducible refine gC ?_);((with_reducible refine NCall.isF 43 ?_);refine NCall.subw [0,6] _ _ (cc t9 b3 N2 hn2) rfl (by decide) rfl ?_;rintro _ _ ⟨N3,hn3,hm3,rfl,rfl⟩;refine ⟨Nat.le_of_ble_eq_true rfl,_,rfl,?_⟩)))<;>(conv=>whnf))|((with_reducible refine gMap ?_);refine sent_next (N:=N) (j:=7) rfl (MapIn.own (j:=4) rfl) ?_ ?_<;>first | (intro i9 t9 hi9 hs9;conv=>whnf) | (intro hall9;conv=>whnf))|((with_reducible refine gMap ?_);refine sent_now (N:=N) (j:=7) rfl (MapIn.own (j:=4) rfl) hi9 ?_;conv=>whnf)|((with_reducible refine gX ?_);(first|(with_reducible first|refine z3 ?_|refine z4 ?_|refine z5 ?_|refine z6 ?_|refine z7 ?_)|((with_reducible refine z29 ?_);intro A B hA hB;(conv=>whnf))))|(with_reducible first|refine z1 ?_|refine z2 ?_|refine z9 ?_|refine z10 ?_|refine z11 ?_|refine z19 ?_)|((intro _;skip)<;>(conv=>whnf))))
  ·refine st_round (i+1,N2,b3) ⟨hlt,hn2,fun q=>?_⟩ (show l.length - (i+1)<l.length - i by omega) ?_ (MemFits.pick [0,1,2,3,6] (by decide) rfl)
   ·rw [hm2,hnx]
    exact exists_congr fun t=>and_congr ((Po.come_all hall9).trans (hm t)) Iff.rfl
   ·repeat (first|exact FitsSl.nil|refine FitsSl.any ?_|refine FitsSl.cons (Fit1.int (by first | rfl | omega)) ?_|refine FitsSl.cons (Fit1.bool rfl) ?_|refine FitsSl.cons (Fit1.same (by intro h;cases h) (by with_reducible rfl)) ?_)
  ·refine st_round (seen.push i9,N3) ⟨hn3,fun q=>?_⟩ (Po.left_push (List.getElem?_eq_some_iff.1 hi9).1 hs9) ?_ (MemFits.pre 8 rfl)
   ·rw [hm3,hm2]
    constructor
    ·rintro (⟨t,h1,h2⟩ | h)
     ·exact ⟨t,(Po.come_push hi9).2 (.inl h1),h2⟩
     ·exact ⟨t9,(Po.come_push hi9).2 (.inr rfl),h⟩
    ·rintro ⟨t,h1,h2⟩
     rcases (Po.come_push hi9).1 h1 with h1 | rfl
     ·exact .inl ⟨t,h1,h2⟩
     ·exact .inr h2
   ·repeat (first|exact FitsSl.nil|refine FitsSl.any ?_|refine FitsSl.cons (Fit1.int (by first | rfl | omega)) ?_|refine FitsSl.cons (Fit1.bool rfl) ?_|refine FitsSl.cons (Fit1.same (by intro h;cases h) (by with_reducible rfl)) ?_)
 ·obtain rfl:i=l.length:=by omega
  have cc:=hcopy b2 N
  clear ih hnxt hcopy
  (repeat' (first|(with_reducible first|(refine hK _ _ ?_;clear hK K)|(refine hB ?_;clear hA hB A B)|(refine hK _ ?_;clear hK K))|((with_reducible refine z25 ?_);intro K hK;(conv=>whnf))|(with_reducible refine z0 ?_)|((first|((with_reducible refine NIf.decN ?s ?_);case s=>omega)|((with_reducible refine NCall.isF 77 ?_);refine NCall.subw [1,4] _ _ (cc) rfl (by decide) rfl ?_;rintro _ _ ⟨L2,hn2,hm2,rfl,rfl⟩;refine ⟨Nat.le_of_ble_eq_true rfl,_,rfl,?_⟩))<;>(conv=>whnf))|(with_reducible first|refine z3 ?_|refine z4 ?_|refine z7 ?_)|((with_reducible refine z29 ?_);intro A B hA hB;(conv=>whnf))|(with_reducible first|refine z1 ?_|refine z2 ?_|refine z9 ?_|refine z10 ?_|refine z11 ?_|refine z19 ?_)|((with_reducible refine gR ?_);(refine z32 rfl ?_;intro K hK;(conv=>whnf)))))
  all_goals exact ⟨L2,hn2,fun t=>by rw [hm2,hm],rfl,MemFits.pre 2 rfl⟩
theorem run27_c:∀ (n:Nat) (F:Heap) (x:Po.T) (pu u:Value) (sw:Int),Po.tot x≤n→Po.tot x≤4611686018427387904→Po.fits x=true→Po.At F x pu u→∀ (s:Po.S) (b:Nat) (L:List Po.S),L.Nodup →
  NCall Tryz.prog 43 [.raw (.map (some b)),.agg (Po.cs x pu u),.int .i64 sw,.agg s.av] [hpB F,mapB b (Po.sM L)] fun r m=>Po.doneR F b L (fun t=>t∈Po.runs sw x s) r m
 | 0,F,x,pu,u,sw,hn,_,_,_=>absurd (Po.tot_pos x) (by omega)
 | n+1,F,⟨k,p,f,v,l⟩,pu,u,sw,hn,hs,hf,hx=>fun s b L hL=>by
  have e2:=Po.tot_mk k p f v l
  obtain ⟨hsh,hfl⟩:=Po.fits_iff.1 hf
  have ih:∀ y∈l,∀ pw w,Po.At F y pw w→∀ (s:Po.S) (b:Nat) (L:List Po.S),L.Nodup→NCall Tryz.prog 43 [.raw (.map (some b)),.agg (Po.cs y pw w),.int .i64 sw,.agg s.av] [hpB F,mapB b (Po.sM L)] fun r m=>Po.doneR F b L (fun t=>t∈Po.runs sw y s) r m :=
   fun y hy pw w hw=>run27_c n F y pw w sw (by have:=Po.tot_lt (k:=k) (q:=p) (f:=f) (v:=v) hy;omega) (by have:=Po.tot_lt (k:=k) (q:=p) (f:=f) (v:=v) hy;omega) (hfl y hy) hw
  rcases hsh with ⟨rfl,hr,⟨rfl,rfl⟩,hl⟩ | ⟨rfl,rfl,hf1,hv1,hl⟩ | ⟨rfl | rfl,rfl,⟨rfl,rfl⟩,hl1,hl2⟩ | ⟨rfl,hr,⟨rfl,rfl⟩,hl⟩
  ·obtain rfl:=List.eq_nil_of_length_eq_zero hl
   exact run27_1 F p pu u sw (by omega) hx s b L hL
  ·obtain rfl:=List.eq_nil_of_length_eq_zero hl
   exact run27_2 F f v pu u sw hx s b L hL
  ·exact run27_3 F l pu u sw (by omega) hx s b L hL ih
  ·exact run27_4 F l pu u sw (by omega) hx s b L hL ih
  ·match l,hl with
   | [x,y],_=>exact run27_5 F p x y pu u sw (by omega) hx s b L hL ih
namespace Po
abbrev SRow (F:Heap) (v:Value) (l:List S):Prop:=RowF F 5 (fun x vs=>vs=x.vs) v l
end Po
theorem collect27_c (F:Heap) (b:Nat) (N:List Po.S) (hn:N.length≤1000000) (cap:Addr) (hc:F.c cap (.map (some b))) (hb:F.o b (mapObj (Po.sM N))) :
  NCall Tryz.prog 78 [.fn 79 [] [.hp cap 0]] [hpB F] fun r m=>∃ (u:Value) (L:List Po.S),L.Perm N∧r = .sl 1 u L.length∧m=[hpB F,⟨addrOf u,Po.savs L,.row u 56 5 L.length⟩]:=by
 have ca:=NCall.fits (appendseq27_c F b N hn cap hc hb) (K':=fun r m=>∃ (u:Value) (L:List Po.S),L.Perm N∧r = .sl 1 u L.length∧m=[hpB F,⟨addrOf u,Po.savs L,.row u 56 5 L.length⟩]) fun r m ⟨u,L,h1,h2,h3⟩=>⟨.sl 1 u L.length,_,h2.symm,h3,u,L,h1,rfl,rfl⟩
 refine ncall_of Tryz.func78 rfl (by decide) ?_
 (repeat' (first|(with_reducible first|(refine hK _ _ ?_;clear hK K)|(refine hK _ ?_;clear hK K))|((with_reducible refine z25 ?_);intro K hK;(conv=>whnf))|(with_reducible refine z0 ?_)|(((with_reducible refine NCall.isF 110 ?_);refine NCall.subw [0] _ _ (ca) rfl (by decide) rfl ?_;rintro _ _ ⟨u,L,hp,rfl,rfl⟩;refine ⟨Nat.le_of_ble_eq_true rfl,_,rfl,?_⟩)<;>(conv=>whnf))|(with_reducible first|refine z3 ?_|refine z4 ?_|refine z8 ?_|refine z1 ?_|refine z2 ?_)|((with_reducible refine gR ?_);(refine z31 rfl ?_;intro K hK;(conv=>whnf)))|((with_reducible refine gF ?_);(refine z33 rfl ?_;intro K hK;(conv=>whnf)))))
 all_goals exact ⟨u,L,hp,rfl,rfl⟩
theorem sortedfunc27_c (F:Heap) (b:Nat) (N R:List Po.S) (hn:N.length≤1000000) (hnd:N.Nodup) (hR:Po.Rising R) (hmem:∀ t,t∈N↔t∈R) (cap:Addr) (hc:F.c cap (.map (some b))) (hb:F.o b (mapObj (Po.sM N))) :
  NCall Tryz.prog 44 [.fn 79 [] [.hp cap 0],.fn 46 [] []] [hpB F] fun r m=>∃ u:Value,r = .sl 1 u R.length∧m=[hpB F,⟨addrOf u,Po.savs R,.row u 56 5 R.length⟩]:=by
 have ca:=collect27_c F b N hn cap hc hb
 refine ncall_of Tryz.func44 rfl (by decide) ?_
 (repeat' (first|(with_reducible first|(refine hK _ _ ?_;clear hK K)|(refine hK _ ?_;clear hK K))|((with_reducible refine z25 ?_);intro K hK;(conv=>whnf))|(with_reducible refine z0 ?_)|((first|((with_reducible refine NCall.isF 78 ?_);refine NCall.subw [0] _ _ (ca) rfl (by decide) rfl ?_;rintro _ _ ⟨u,L,hp,rfl,rfl⟩;refine ⟨Nat.le_of_ble_eq_true rfl,_,rfl,?_⟩)|((with_reducible refine NCall.isF 41 ?_);refine NCall.subw [1] _ _ (sorts_c u 56 L (by have:=hp.length_eq;omega)) rfl (by decide) rfl ?_;rintro _ _ ⟨rfl,L2,hp2,hs2,rfl⟩;refine ⟨Nat.le_of_ble_eq_true rfl,_,rfl,?_⟩))<;>(conv=>whnf))|(with_reducible first|refine z3 ?_|refine z4 ?_|refine z8 ?_|refine z1 ?_|refine z2 ?_)|((with_reducible refine gR ?_);(refine z31 rfl ?_;intro K hK;(conv=>whnf)))|((with_reducible refine gF ?_);(refine z33 rfl ?_;intro K hK;(conv=>whnf)))))
 all_goals
  have e:=Po.sorted_eq (hp2.trans hp) hnd hs2 hR hmem
  subst e
  exact ⟨u,by rw [hp2.length_eq],by rw [hp2.length_eq]⟩
namespace Tr
theorem srow_mono {F G:Heap} (h:F.le G) {v:Value} {l:List Po.S} (hv:Po.SRow F v l):Po.SRow G v l:=RowF.mono h (fun _ _ h=>h) hv
def cs (c:C) (v:Value):List AV:=[.int .i64 c.s.port,.int .i64 c.s.p0,.int .i64 c.s.p1,.int .i64 c.s.p2,.int .i64 c.s.p3,.hs v c.out.length]
def R (F:Heap) (c:C) (us:List Value):Prop:=∃ A cap,Po.SRow F (.slice A c.out.length cap) c.out∧us=[.int .i64 c.s.port,.int .i64 c.s.p0,.int .i64 c.s.p1,.int .i64 c.s.p2,.int .i64 c.s.p3,.slice A c.out.length cap]
theorem R.mono {F G:Heap} (h:F.le G) {c:C} {us:List Value} (hc:R F c us):R G c us:=by
 obtain ⟨A,cap,h1,h2⟩:=hc
 exact ⟨A,cap,srow_mono h h1,h2⟩
abbrev Row (F:Heap) (v:Value) (l:List C):Prop:=RowF F 6 (R F) v l
theorem Row.mono {F G:Heap} (h:F.le G) {v:Value} {l:List C} (hv:Row F v l):Row G v l:=RowF.mono h (fun _ _ hp=>R.mono h hp) hv
structure Cell (F:Heap) (v:Value) (i:Nat) (x:C) (A:Option Addr) (cap:Nat):Prop where
 c0:F.c ((addrOf v).add (i*6)) (.int .i64 x.s.port)
 c1:F.c ((addrOf v).add (i*6+1)) (.int .i64 x.s.p0)
 c2:F.c ((addrOf v).add (i*6+2)) (.int .i64 x.s.p1)
 c3:F.c ((addrOf v).add (i*6+3)) (.int .i64 x.s.p2)
 c4:F.c ((addrOf v).add (i*6+4)) (.int .i64 x.s.p3)
 c5:F.c ((addrOf v).add (i*6+5)) (.slice A x.out.length cap)
theorem Row.get {F:Heap} {v:Value} {l:List C} (h:Row F v l) {i:Nat} {x:C} (hx:l[i]?=some x):∃ A cap,Po.SRow F (.slice A x.out.length cap) x.out∧Cell F v i x A cap:=by
 obtain ⟨us,h1,_,h2⟩:=h.at_ i x hx
 obtain ⟨A,cap,h3,rfl⟩:=h1
 simp only [CellsF,Nat.add_assoc,Nat.reduceAdd] at h2
 obtain ⟨c0,c1,c2,c3,c4,c5,_⟩:=h2
 exact ⟨A,cap,h3,c0,c1,c2,c3,c4,c5⟩
structure L where
 x:C
 v:Value
def psC (ps:List L):List AV:=ps.flatMap fun p=>cs p.x p.v
def psV (p:L):List Value:=denL (cs p.x p.v)
theorem psC_den:∀ ps,denL (psC ps)=ps.flatMap psV
 | []=>rfl
 | p::ps=>by
  have:=psC_den ps
  unfold psC at *
  rw [List.flatMap_cons,List.flatMap_cons,denL_append,this]
  rfl
theorem psC_len (ps:List L):(psC ps).length=ps.length*6:=by
 induction ps with
 | nil=>rfl
 | cons p ps ih =>
  unfold psC at *
  rw [List.flatMap_cons,List.length_append,ih,List.length_cons]
  show 6+_=_
  omega
theorem psC_append (a b:List L):psC (a++b)=psC a++psC b:=by unfold psC;rw [List.flatMap_append]
theorem psC_next (ps:List L) (p:L):psC (ps++[p])=psC ps++cs p.x p.v:=by
 rw [psC_append]
 unfold psC
 simp
theorem ones_psC (l:List L):Go.Sx.ones (psC l)=true:=by
 induction l with
 | nil=>rfl
 | cons x l ih =>
  unfold psC at *
  rw [List.flatMap_cons]
  simpa [cs,Go.Sx.ones] using ih
theorem row_of {G:Heap} {u:Value} {ps:List L} (h:RowF G 6 (fun p vs=>vs=psV p) u ps) (hall:∀ p∈ps,Po.SRow G p.v p.x.out):Row G u (ps.map (·.x)):=by
 refine ⟨by rw [List.length_map];exact h.ok,fun k x hx=>?_⟩
 rw [List.getElem?_map] at hx
 cases hp:ps[k]? with
 | none=>rw [hp] at hx;cases hx
 | some p =>
  rw [hp] at hx
  simp only [Option.map_some,Option.some.injEq] at hx
  subst hx
  obtain ⟨vs,h1,h2,h3⟩:=h.at_ k p hp
  have hr:=hall p (List.mem_of_getElem? hp)
  refine ⟨vs,?_,h2,h3⟩
  obtain ⟨A,cap,hv,hle,hz⟩:=hr.ok
  rw [h1]
  obtain ⟨x,w⟩:=p
  dsimp only at hv hr ⊢
  subst hv
  exact ⟨A,cap,hr,rfl⟩
theorem Row.reads {F:Heap} {v:Value} {l:List C} (h:Row F v l):∃ ps:List L,ps.map (·.x)=l∧(∀ p∈ps,Po.SRow F p.v p.x.out)∧(psC ps).length=l.length*6∧CellsF F (addrOf v) 0 (denL (psC ps)):=by
 have hg:∀ i:Nat,∃ w:Value,∀ x,l[i]?=some x→Po.SRow F w x.out∧CellsF F (addrOf v) (i*6) (psV ⟨x,w⟩):=fun i=>by
  cases hx:l[i]? with
  | none=>exact ⟨.slice none 0 0,fun x e=>by cases e⟩
  | some x =>
   obtain ⟨us,⟨A,cap,h3,rfl⟩,_,h2⟩:=h.at_ i x hx
   exact ⟨.slice A x.out.length cap,fun y e=>by cases e;exact ⟨h3,h2⟩⟩
 let w:=fun i=>Classical.choose (hg i)
 have hw:=fun i=>Classical.choose_spec (hg i)
 let ps:List L:=(List.range l.length).map fun i=>⟨l.getD i ⟨start,[]⟩,w i⟩
 have hlen:ps.length=l.length:=by simp [ps]
 have hat:∀ i (hi:i<l.length),ps[i]?=some ⟨l[i],w i⟩:=fun i hi=>by
  simp [ps,List.getElem?_map,List.getElem?_range hi,List.getD_eq_getElem?_getD,List.getElem?_eq_getElem hi]
 refine ⟨ps,?_,fun p hp=>?_,by rw [psC_len,hlen],?_⟩
 ·apply List.ext_getElem?
  intro i
  rw [List.getElem?_map]
  by_cases hi:i<l.length
  ·rw [hat i hi,List.getElem?_eq_getElem hi];rfl
  ·rw [List.getElem?_eq_none (by omega),List.getElem?_eq_none (by omega)];rfl
 ·obtain ⟨i,hi,e⟩:=List.mem_iff_getElem.1 hp
  rw [hlen] at hi
  have e2:=hat i hi
  rw [List.getElem?_eq_getElem (by omega),e] at e2
  injection e2 with e2
  subst e2
  exact (hw i l[i] (List.getElem?_eq_getElem hi)).1
 ·rw [psC_den]
  have hr:RowF F 6 (fun p us=>us=psV p) v ps:=⟨by rw [hlen];exact h.ok,fun i p hp=>by
   have hi:i<l.length:=by rw [← hlen];exact (List.getElem?_eq_some_iff.1 hp).1
   rw [hat i hi] at hp
   injection hp with hp
   subst hp
   exact ⟨_,rfl,rfl,(hw i l[i] (List.getElem?_eq_getElem hi)).2⟩⟩
  exact hr.all.1
abbrev Lays (F:Heap) (l:List C) (r:AV) (m:List Blk):Prop:=∃ F' v,F.le F'∧Row F' v l∧r = .hs v l.length∧m=[hpB F']
theorem rows_know {f:FuncId} {args:List AV} {F:Heap} {t:TypeId} {m:List Blk} {l:List C} (h:NCall Tryz.prog f args m fun r m'=>∃ G v,∃ ps:List L,F.le G∧ps.map (·.x)=l∧(∀ p∈ps,Po.SRow G p.v p.x.out)∧r.den=slOf v∧MemFits m' [hpB G,⟨addrOf v,psC ps,.row v t 6 ps.length⟩]) :
  NCall Tryz.prog f args m fun r m'=>Lays F l r m':=by
 refine Go.Sx.NCall.know h fun r m' ⟨G,u,ps,hle,hmap,hall,hr,hm⟩ ⟨w,hw⟩=>?_
 have hok:=((hm w hw).1.row (List.mem_cons_of_mem _ (List.mem_cons_self ..))).1
 have hrow:=rowF_new (F:=G) (sz:=6) (enc:=psV) hok (psC_den ps) (fun x _=>rfl)
 refine ⟨.hs u l.length,_,hr.symm,hm.trans (MemFits.freeze (m:=[])),_,u,hle.trans addF.old,?_,rfl,rfl⟩
 rw [← hmap]
 exact row_of hrow fun p hp=>srow_mono addF.old (hall p hp)
abbrev Lay1 (F:Heap) (c:C) (r:AV) (m:List Blk):Prop:=∃ F' v,F.le F'∧Po.SRow F' v c.out∧r = .agg (cs c v)∧m=[hpB F']
theorem case_know {f:FuncId} {args:List AV} {F:Heap} {t:TypeId} {m:List Blk} {c:C} (h:NCall Tryz.prog f args m fun r m'=>∃ G v,F.le G∧r.den=(AV.agg (cs c v)).den∧MemFits m' [hpB G,⟨addrOf v,Po.savs c.out,.row v t 5 c.out.length⟩]) :
  NCall Tryz.prog f args m fun r m'=>Lay1 F c r m':=by
 refine Go.Sx.NCall.know h fun r m' ⟨G,u,hle,hr,hm⟩ ⟨w,hw⟩=>?_
 have hok:=((hm w hw).1.row (List.mem_cons_of_mem _ (List.mem_cons_self ..))).1
 have hrow:=rowF_new (F:=G) (sz:=5) (enc:=Po.S.vs) hok (Po.savs_den _) (fun x _=>rfl)
 exact ⟨.agg (cs c u),_,hr.symm,hm.trans (MemFits.freeze (m:=[])),_,u,hle.trans addF.old,hrow,rfl,rfl⟩
end Tr
theorem with31_c (s:Po.S) (f v:Int) (hf:Tr.ok f):NCall Tryz.prog 59 [.agg [.int .i64 s.port,.int .i64 s.p0,.int .i64 s.p1,.int .i64 s.p2,.int .i64 s.p3,.raw (.slice none 0 0)],.int .i64 f,.int .i64 v] [] fun r _=>r = .agg [.int .i64 (Tr.withK f v s).port,.int .i64 (Tr.withK f v s).p0,.int .i64 (Tr.withK f v s).p1,.int .i64 (Tr.withK f v s).p2,.int .i64 (Tr.withK f v s).p3,.raw (.slice none 0 0)]:=by
 refine ncall_of Tryz.func59 rfl (by decide) ?_
 obtain ⟨s0,s1,s2,s3,s4⟩:=s
 rcases Tr.ok5 hf with rfl | rfl | rfl | rfl | rfl
 all_goals
  simp only [Tr.withK]
  (repeat' (first|(with_reducible first|(refine hK _ _ ?_;clear hK K)|(refine hA ?_;clear hA hB A B)|(refine hB ?_;clear hA hB A B)|(refine hK _ ?_;clear hK K))|((with_reducible refine z25 ?_);intro K hK;(conv=>whnf))|(with_reducible refine z0 ?_)|((first|((with_reducible refine NIf.decY ?s ?_);case s=>with_reducible rfl)|((with_reducible refine NIf.decN ?s ?_);case s=>omega)|(with_reducible first|refine NN.lit ?_|refine NN.a3 ?_|refine NN.a5 ?_)|((with_reducible refine NH.mk ?s ?_);case s=>(and_intros<;>first|with_reducible rfl|((with_reducible refine gOnes ?_);rfl)|((with_reducible refine gLen ?_);rfl)|omega)))<;>(conv=>whnf))|(with_reducible first|refine z3 ?_|refine z4 ?_|refine z8 ?_)|((with_reducible refine z29 ?_);intro A B hA hB;(conv=>whnf))|(with_reducible first|refine z1 ?_|refine z2 ?_)|((with_reducible refine gR ?_);(refine z31 rfl ?_;intro K hK;(conv=>whnf)))|((with_reducible refine gF ?_);(refine z33 rfl ?_;intro K hK;(conv=>whnf)))|((intro _;skip)<;>(conv=>whnf))))
  all_goals rfl
theorem with31_h (s:Po.S) (f v:Int) (w:Value) (n:Nat) (hf:Tr.ok f):NCall Tryz.prog 59 [.agg [.int .i64 s.port,.int .i64 s.p0,.int .i64 s.p1,.int .i64 s.p2,.int .i64 s.p3,.hs w n],.int .i64 f,.int .i64 v] [] fun r _=>r = .agg [.int .i64 (Tr.withK f v s).port,.int .i64 (Tr.withK f v s).p0,.int .i64 (Tr.withK f v s).p1,.int .i64 (Tr.withK f v s).p2,.int .i64 (Tr.withK f v s).p3,.hs w n]:=by
 refine ncall_of Tryz.func59 rfl (by decide) ?_
 obtain ⟨s0,s1,s2,s3,s4⟩:=s
 rcases Tr.ok5 hf with rfl | rfl | rfl | rfl | rfl
 all_goals
  simp only [Tr.withK]
  (repeat' (first|(with_reducible first|(refine hK _ _ ?_;clear hK K)|(refine hA ?_;clear hA hB A B)|(refine hB ?_;clear hA hB A B)|(refine hK _ ?_;clear hK K))|((with_reducible refine z25 ?_);intro K hK;(conv=>whnf))|(with_reducible refine z0 ?_)|((first|((with_reducible refine NIf.decY ?s ?_);case s=>with_reducible rfl)|((with_reducible refine NIf.decN ?s ?_);case s=>omega)|(with_reducible first|refine NN.lit ?_|refine NN.a3 ?_|refine NN.a5 ?_)|((with_reducible refine NH.mk ?s ?_);case s=>(and_intros<;>first|with_reducible rfl|((with_reducible refine gOnes ?_);rfl)|((with_reducible refine gLen ?_);rfl)|omega)))<;>(conv=>whnf))|(with_reducible first|refine z3 ?_|refine z4 ?_|refine z8 ?_)|((with_reducible refine z29 ?_);intro A B hA hB;(conv=>whnf))|(with_reducible first|refine z1 ?_|refine z2 ?_)|((with_reducible refine gR ?_);(refine z31 rfl ?_;intro K hK;(conv=>whnf)))|((with_reducible refine gF ?_);(refine z33 rfl ?_;intro K hK;(conv=>whnf)))|((intro _;skip)<;>(conv=>whnf))))
  all_goals rfl
theorem came31_c (n k:Int):NCall Tryz.prog 89 [.int .i64 n,.int .i64 k] [] fun r _=>r = .int .i64 (Tr.came n k):=by
 refine ncall_of Tryz.func89 rfl (by decide) ?_
 unfold Tr.came
 by_cases h:n=k
 ·rw [if_pos h]
  (repeat' (first|(with_reducible first|(refine hK _ _ ?_;clear hK K)|(refine hA ?_;clear hA hB A B)|(refine hK _ ?_;clear hK K))|((with_reducible refine z25 ?_);intro K hK;(conv=>whnf))|(with_reducible refine z0 ?_)|(((with_reducible refine NIf.decY ?s ?_);case s=>assumption)<;>(conv=>whnf))|(with_reducible first|refine z3 ?_|refine z4 ?_|refine z8 ?_)|((with_reducible refine z29 ?_);intro A B hA hB;(conv=>whnf))|(with_reducible first|refine z1 ?_|refine z2 ?_|refine z12 ?_)|((with_reducible refine gR ?_);(refine z31 rfl ?_;intro K hK;(conv=>whnf)))|((with_reducible refine gF ?_);(refine z33 rfl ?_;intro K hK;(conv=>whnf)))))
  all_goals first | (exfalso;omega) | rfl
 ·rw [if_neg h]
  (repeat' (first|(with_reducible first|(refine hK _ _ ?_;clear hK K)|(refine hB ?_;clear hA hB A B)|(refine hK _ ?_;clear hK K))|((with_reducible refine z25 ?_);intro K hK;(conv=>whnf))|(with_reducible refine z0 ?_)|(((with_reducible refine NIf.decN ?s ?_);case s=>assumption)<;>(conv=>whnf))|(with_reducible first|refine z3 ?_|refine z4 ?_|refine z6 ?_|refine z8 ?_)|((with_reducible refine z29 ?_);intro A B hA hB;(conv=>whnf))|(with_reducible first|refine z1 ?_|refine z2 ?_)|((with_reducible refine gR ?_);(refine z31 rfl ?_;intro K hK;(conv=>whnf)))|((with_reducible refine gF ?_);(refine z33 rfl ?_;intro K hK;(conv=>whnf)))))
  all_goals first | (exfalso;omega) | rfl
theorem is31_c (n k:Int):NCall Tryz.prog 35 [.int .i64 n,.int .i64 k] [] fun r _=>r = .bool (decide (n = -1∨n=k)):=by
 refine ncall_of Tryz.func35 rfl (by decide) ?_
 by_cases h:n = -1
 ·rw [decide_eq_true (show n = -1∨n=k from .inl h)]
  (repeat' (first|(with_reducible first|(refine hK _ _ ?_;clear hK K)|(refine hK _ ?_;clear hK K))|((with_reducible first|refine z25 ?_|refine z26 ?_);intro K hK;(conv=>whnf))|(with_reducible refine z0 ?_)|(((with_reducible refine NIf.decY ?s ?_);case s=>assumption)<;>(conv=>whnf))|(with_reducible first|refine z3 ?_|refine z4 ?_|refine z8 ?_|refine z1 ?_|refine z2 ?_)|((with_reducible refine gR ?_);(refine z31 rfl ?_;intro K hK;(conv=>whnf)))|((with_reducible refine gF ?_);(refine z33 rfl ?_;intro K hK;(conv=>whnf)))))
  all_goals first | (exfalso;omega) | rfl
 ·rw [show decide (n = -1∨n=k)=decide (n=k) from decide_eq_decide.2 ⟨fun e=>e.resolve_left h,.inr⟩]
  (repeat' (first|(with_reducible first|(refine hK _ _ ?_;clear hK K)|(refine hK _ ?_;clear hK K))|((with_reducible first|refine z25 ?_|refine z26 ?_);intro K hK;(conv=>whnf))|(with_reducible refine z0 ?_)|(((with_reducible refine NIf.decN ?s ?_);case s=>assumption)<;>(conv=>whnf))|(with_reducible first|refine z3 ?_|refine z4 ?_|refine z8 ?_|refine z1 ?_|refine z2 ?_)|((with_reducible refine gR ?_);(refine z31 rfl ?_;intro K hK;(conv=>whnf)))|((with_reducible refine gF ?_);(refine z33 rfl ?_;intro K hK;(conv=>whnf)))))
  all_goals first | (exfalso;omega) | rfl
end Go.Proofs.YtaolcaggdddkpaaGreat
