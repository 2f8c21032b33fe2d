import Derived.Test.YtaolcaggdddkpaaGreatJ14
import Derived.Test.YtaolcaggdddkpaaGreatSxC
import Derived.Test.YtaolcaggdddkpaaGreatJ15
namespace Go.Proofs.YtaolcaggdddkpaaGreat
open Go.Sx
set_option maxRecDepth 20000
set_option linter.unusedSimpArgs false
set_option linter.unusedVariables false
set_option maxHeartbeats 4000000
theorem sents_know {f:FuncId} {args:List AV} {F:Heap} {t:TypeId} {m:List Blk} {l:List Po.S} (h:NCall Tryz.prog f args m fun r m'=>∃ v,r.den=slOf v∧MemFits m' [hpB F,⟨addrOf v,Po.savs l,.row v t 5 l.length⟩]) :
  NCall Tryz.prog f args m fun r m'=>∃ F' v,F.le F'∧Po.SRow F' v l∧r = .hs v l.length∧m'=[hpB F']:=by
 refine Go.Sx.NCall.know h fun r m' ⟨v,hr,hm⟩ ⟨w,hw⟩=>?_
 have hok:=((hm w hw).1.row (List.mem_cons_of_mem _ (List.mem_cons_self ..))).1
 have hrow:=rowF_new (F:=F) (sz:=5) (enc:=Po.S.vs) hok (Po.savs_den _) (fun x _=>rfl)
 exact ⟨.hs v l.length,_,hr.symm,hm.trans (MemFits.freeze (m:=[])),_,v,addF.old,hrow,rfl,rfl⟩
theorem sorted27_k (F:Heap) (b c:Nat) (t:TypeId) (N R:List Po.S) (hn:N.length≤1000000) (hnd:N.Nodup) (hR:Po.Rising R) (hmem:∀ t,t∈N↔t∈R) :
  NCall Tryz.prog 44 [.fn 79 [] [.ptr 2 ⟨c,0,none⟩ 0],.fn 46 [] []] [hpB F,mapB b (Po.sM N),⟨⟨c,0,none⟩,[.raw (.map (some b))],.var t⟩] fun r m=>∃ (G:Heap) (u:Value),F.le G∧r = .sl 3 u R.length∧m=[hpB G,hpB noHeap,hpB noHeap,⟨addrOf u,Po.savs R,.row u 56 5 R.length⟩]:=by
 have hc:(addF (addO F b (mapObj (Po.sM N))) ⟨c,0,none⟩ (denL [AV.raw (.map (some b))])).c ⟨c,0,none⟩ (.map (some b)):=.inr ⟨0,by simp [Addr.add],by simp [denL,AV.den]⟩
 have hb:(addF (addO F b (mapObj (Po.sM N))) ⟨c,0,none⟩ (denL [AV.raw (.map (some b))])).o b (mapObj (Po.sM N)):=.inr ⟨rfl,rfl⟩
 have h:=sortedfunc27_c _ b N R hn hnd hR hmem ⟨c,0,none⟩ hc hb
 have h:=NCall.pre (args:=[.fn 79 [] [.ptr 2 ⟨c,0,none⟩ 0],.fn 46 [] []]) (m:=[hpB F,mapB b (Po.sM N),⟨⟨c,0,none⟩,[.raw (.map (some b))],.var t⟩]) h rfl (MemFits.freezeObj.trans MemFits.freezeVar)
 have hle:F.le (addF (addO F b (mapObj (Po.sM N))) ⟨c,0,none⟩ (denL [AV.raw (.map (some b))])):=addO.old.trans addF.old
 generalize addF (addO F b (mapObj (Po.sM N))) ⟨c,0,none⟩ (denL [AV.raw (.map (some b))])=G at *
 refine NCall.fits h fun r m ⟨u,h1,h2⟩=>⟨.sl 3 u R.length,[hpB G,hpB noHeap,hpB noHeap,⟨addrOf u,Po.savs R,.row u 56 5 R.length⟩],?_,?_,G,u,hle,rfl,rfl⟩
 ·rw [h1];rfl
 ·rw [h2]
  exact ((MemFits.noHeap _).trans (MemFits.noHeap _)).trans (MemFits.pick [2,0,1,3] (by decide) rfl)
theorem Run27_c (F:Heap) (x:Po.T) (pu u:Value) (sw:Int) (s:Po.S) (hs:Po.tot x≤4611686018427387904) (hf:Po.fits x=true) (hl:(Po.runs sw x s).length≤1000000) (hx:Po.At F x pu u) :
  NCall Tryz.prog 20 [.agg (Po.cs x pu u),.int .i64 sw,.int .i64 s.port,.agg [.int .i64 s.p0,.int .i64 s.p1,.int .i64 s.p2,.int .i64 s.p3]] [hpB F] fun r m=>∃ F' v,F.le F'∧Po.SRow F' v (Po.runs sw x s)∧r = .hs v (Po.runs sw x s).length∧m=[hpB F']:=by
 refine sents_know (t:=56) ?_
 have hok:=hx.l.ok
 have hpok:=hx.p.ok
 have cr:=fun b=>run27_c _ F x pu u sw (Nat.le_refl _) hs hf hx s b [] List.nodup_nil
 simp only [Po.doneR] at cr
 have hR:=Po.runs_rising sw s _ x (Nat.le_refl _)
 have ck:=fun b=>keys27_c F b
 generalize Po.runs sw x s=R at *
 have hlen:∀ N:List Po.S,N.Nodup→(∀ t,t∈N↔t∈([]:List Po.S)∨t∈R)→N.length≤1000000∧∀ t,t∈N↔t∈R:=fun N hn hm=>by
  have hm:∀ t,t∈N↔t∈R:=fun t=>(hm t).trans (by simp)
  refine ⟨Nat.le_trans ?_ hl,hm⟩
  have hp:N.Perm R:=by
   rw [List.perm_iff_count]
   intro t
   have hRn:R.Nodup:=List.Pairwise.imp (fun {a b} (h:Po.ahead a b) (e:a=b)=>Po.ahead_irrefl b (by rw [e] at h;exact h)) hR
   rw [hn.count,hRn.count]
   simp only [hm]
  rw [hp.length_eq]
  exact Nat.le_refl _
 have hsf:=fun b c N (hn:N.length≤1000000) hnd hm=>sorted27_k F b c 86 N R hn hnd hR hm
 clear hl hR hx hf hs
 obtain ⟨k,⟨pk,pf,pv,pl⟩,f0,v0,l⟩:=x
 obtain ⟨a0,q0,q1,q2,q3⟩:=s
 simp only [Po.cs,Po.T.k,Po.T.p,Po.T.f,Po.T.v,Po.T.l,Pd.T.k,Pd.T.f,Pd.T.v,Pd.T.l,Po.S.av] at *
 refine ncall_of Tryz.func20 rfl (by decide) ?_
 (repeat' (first|(with_reducible first|(refine hK _ _ ?_;clear hK K)|(refine hK _ ?_;clear hK K))|((with_reducible refine z25 ?_);intro K hK;(conv=>whnf))|(with_reducible refine z0 ?_)|((first|((with_reducible refine NH.mk ?s ?_);case s=>(and_intros<;>with_reducible rfl))|((with_reducible refine NCall.isF 43 ?_);refine NCall.subw [0,3] _ _ (cr _) rfl (by decide) rfl ?_;rintro _ _ ⟨N,hnd,hmem,rfl,rfl⟩;refine ⟨Nat.le_of_ble_eq_true rfl,_,rfl,?_⟩)|((with_reducible refine NCall.isF 45 ?_);refine NCall.subw [0] _ _ (ck _) rfl (by decide) rfl ?_;rintro _ _ ⟨c,rfl,rfl⟩;refine ⟨Nat.le_of_ble_eq_true rfl,.fn 79 [] [.ptr 4 ⟨c,0,none⟩ 0],rfl,?_⟩)|((with_reducible refine NCall.isF 44 ?_);refine NCall.subw [0,3,4] _ _ (hsf _ _ N (hlen N hnd hmem).1 hnd (hlen N hnd hmem).2) rfl (by decide) rfl ?_;rintro _ _ ⟨G,u9,hle,rfl,rfl⟩;refine ⟨Nat.le_of_ble_eq_true rfl,.sl 5 u9 R.length,rfl,?_⟩))<;>(conv=>whnf))|((with_reducible refine gMap ?_);refine NMap.make fun b1=>?_;conv=>whnf)|(with_reducible first|refine z3 ?_|refine z4 ?_|refine z8 ?_|refine z1 ?_|refine z2 ?_)|((with_reducible refine gR ?_);(refine z31 rfl ?_;intro K hK;(conv=>whnf)))|((with_reducible refine gF ?_);(refine z33 rfl ?_;intro K hK;(conv=>whnf)))|((intro _;skip)<;>(conv=>whnf))))
 all_goals exact ⟨u9,rfl,(MemFits.pick [0,5] (by decide) rfl).trans (MemFits.less hle _)⟩
end Go.Proofs.YtaolcaggdddkpaaGreat
namespace Go.Sx
set_option linter.unusedVariables false
def joinF (A B:Heap):Heap:=⟨fun a u=>A.c a u∨B.c a u,fun b o=>A.o b o∨B.o b o⟩
theorem joinF.l {A B:Heap}:A.le (joinF A B):=⟨fun _ _ h=>.inl h,fun _ _ h=>.inl h⟩
theorem joinF.r {A B:Heap}:B.le (joinF A B):=⟨fun _ _ h=>.inr h,fun _ _ h=>.inr h⟩
theorem foot_hp_le {F G:Heap} (h:F.le G):∀ b,(hpB F).foot b→(hpB G).foot b:=by
 rintro b (⟨a,u,hu,e⟩ | ⟨o,ho⟩)
 ·exact .inl ⟨a,u,h.c a u hu,e⟩
 ·exact .inr ⟨o,h.o b o ho⟩
theorem sep_hp (F G:Heap):Sep (hpB F) (hpB G):=fun h=>by rcases h with h | h<;>cases h
theorem MemFits.dup {F G:Heap} (h:F.le G) (m:List Blk):MemFits (hpB G::m) (hpB F::hpB G::m):=fun w hm=>by
 have h1:=hm.holds (hpB G) (by simp)
 have hs:=hm.sep
 rw [List.pairwise_cons] at hs
 refine ⟨⟨fun k hk=>?_,?_⟩,fun b ⟨k,hk,hw,hb⟩=>?_,fun b ⟨k,hk,hb⟩=>?_⟩
 ·rcases List.mem_cons.1 hk with rfl | hk
  ·exact ⟨rfl,fun a u hu=>h1.2.1 a u (h.c a u hu),fun b o ho=>h1.2.2 b o (h.o b o ho)⟩
  ·exact hm.holds k hk
 ·rw [List.pairwise_cons]
  refine ⟨fun y hy=>?_,hm.sep⟩
  rcases List.mem_cons.1 hy with rfl | hy
  ·exact sep_hp _ _
  ·exact fun hw b hb1 hb2=>hs.1 y hy (hw.imp (fun h=>by cases h) id) b (foot_hp_le h b hb1) hb2
 ·rcases List.mem_cons.1 hk with rfl | hk
  ·cases hw
  ·exact ⟨k,hk,hw,hb⟩
 ·rcases List.mem_cons.1 hk with rfl | hk
  ·exact ⟨hpB G,by simp,foot_hp_le h b hb⟩
  ·exact ⟨k,hk,hb⟩
theorem MemFits.joinH (A B:Heap) (m:List Blk):MemFits (hpB A::hpB B::m) (hpB (joinF A B)::m):=fun w hm=>by
 have h1:=hm.holds (hpB A) (by simp)
 have h2:=hm.holds (hpB B) (by simp)
 have hs:=hm.sep
 simp only [List.pairwise_cons] at hs
 have hf:∀ b,(hpB (joinF A B)).foot b→(hpB A).foot b∨(hpB B).foot b:=by
  rintro b (⟨a,u,hu | hu,e⟩ | ⟨o,ho | ho⟩)
  ·exact .inl (.inl ⟨a,u,hu,e⟩)
  ·exact .inr (.inl ⟨a,u,hu,e⟩)
  ·exact .inl (.inr ⟨o,ho⟩)
  ·exact .inr (.inr ⟨o,ho⟩)
 refine ⟨⟨fun k hk=>?_,?_⟩,fun b ⟨k,hk,hw,hb⟩=>?_,fun b ⟨k,hk,hb⟩=>?_⟩
 ·rcases List.mem_cons.1 hk with rfl | hk
  ·exact ⟨rfl,fun a u hu=>hu.elim (h1.2.1 a u) (h2.2.1 a u),fun b o ho=>ho.elim (h1.2.2 b o) (h2.2.2 b o)⟩
  ·exact hm.holds k (by simp [hk])
 ·rw [List.pairwise_cons]
  refine ⟨fun y hy hw b hb1 hb2=>?_,hs.2.2⟩
  rcases hf b hb1 with hb | hb
  ·exact hs.1 y (by simp [hy]) (hw.imp (fun h=>by cases h) id) b hb hb2
  ·exact hs.2.1 y hy (hw.imp (fun h=>by cases h) id) b hb hb2
 ·rcases List.mem_cons.1 hk with rfl | hk
  ·cases hw
  ·exact ⟨k,by simp [hk],hw,hb⟩
 ·rcases List.mem_cons.1 hk with rfl | hk
  ·rcases hf b hb with hb | hb
   ·exact ⟨hpB A,by simp,hb⟩
   ·exact ⟨hpB B,by simp,hb⟩
  ·exact ⟨k,by simp [hk],hb⟩
end Go.Sx
namespace Go.Proofs.YtaolcaggdddkpaaGreat
open Go.Sx
set_option maxRecDepth 20000
set_option linter.unusedSimpArgs false
set_option linter.unusedVariables false
set_option maxHeartbeats 4000000
theorem compacto_c (v:Value) (t:TypeId) (l:List Po.S) (hl:l.length≤4611686018427387904) (hr:Po.Rising l) :
  NCall Tryz.prog 90 [.sl 0 v l.length] [⟨addrOf v,Po.savs l,.row v t 5 l.length⟩] fun r m=>r = .sl 0 v l.length∧m=[⟨addrOf v,Po.savs l,.row v t 5 l.length⟩] :=
 NCall.frozen (F:=noHeap) (enc:=Po.S.vs) (args':=[.hs v l.length]) (compacts_c noHeap (.slice none 0 0) [] RowF.nil (by simp) (by simp)) rfl (MemFits.noHeap _) rfl (Po.savs_den l) (fun _ _=>rfl)
  fun G _ hG=>(compacts_c G v l hG hl hr).fits fun r m' h=>⟨.sl 0 v l.length,_,by rw [h.1];rfl,MemFits.eq rfl,rfl,rfl⟩
theorem last31_c (F:Heap) (sw:Int) (y:Po.T) (pu u:Value) (a:Addr) (s:Po.S) (hs:Po.tot y≤4611686018427387904) (hf:Po.fits y=true) (hl:(Po.runs sw y s).length≤1000) (hy:Po.At F y pu u) (h8:CellsF F a 0 (denL (Po.cs y pu u++[.int .i64 sw]))) :
  NCall Tryz.prog 58 [.hp a 0,.agg [.int .i64 s.port,.int .i64 s.p0,.int .i64 s.p1,.int .i64 s.p2,.int .i64 s.p3,.raw (.slice none 0 0)]] [hpB F] fun r m=>Tr.Lay1 F ⟨s,Tr.outs sw y s⟩ r m:=by
 refine Tr.case_know (t:=56) ?_
 have cr:=Run27_c F y pu u sw s hs hf (by omega) hy
 have hnd:=Tr.came_nodup sw y hf s
 have hmem:=Tr.outs_mem sw y s
 have hris:=Tr.outs_rising sw y s
 have hol:=Tr.outs_len sw y s
 generalize Po.runs sw y s=R at *
 generalize Tr.outs sw y s=O at *
 have hLR:(R.map (Tr.cameS s)).length=R.length:=List.length_map _
 have hnx:∀ i (h:i<R.length),Po.savs ((R.map (Tr.cameS s)).take (i+1))=Po.savs ((R.map (Tr.cameS s)).take i)++(Tr.cameS s R[i]).av:=fun i h=>by
  rw [List.take_add_one,List.getElem?_map,List.getElem?_eq_getElem h,Po.savs_append]
  simp [Po.savs]
 generalize R.map (Tr.cameS s)=L at *
 have hsc:∀ (w:Value) (L2:List Po.S),L2.Perm L→L2.Pairwise (fun x y=>¬ Po.ahead y x)→NCall Tryz.prog 90 [.sl 0 w L.length] [⟨addrOf w,Po.savs L2,.row w 56 5 L.length⟩] fun r m=>r = .sl 0 w L.length∧m=[⟨addrOf w,Po.savs O,.row w 56 5 O.length⟩]:=fun w L2 hp2 hs2=>by
  have e:=Po.sorted_eq hp2 hnd hs2 hris hmem
  subst e
  rw [← hp2.length_eq]
  exact compacto_c w _ L2 (by omega) hris
 have hL1000:L.length≤1000:=by omega
 obtain ⟨pA,pcap,hpv,hple,hpz⟩:=hy.p.ok
 obtain ⟨A,cap,hv,hle,hz⟩:=hy.l.ok
 clear hf hs hy
 obtain ⟨yk,⟨ypk,ypf,ypv,ypl⟩,yf,yv,yl⟩:=y
 obtain ⟨s0,s1,s2,s3,s4⟩:=s
 simp only [Po.cs,Po.T.k,Po.T.p,Po.T.f,Po.T.v,Po.T.l,Pd.T.k,Pd.T.f,Pd.T.v,Pd.T.l,Tr.cs] at *
 subst hpv hv
 obtain ⟨c0,c1,c2,c3,c4,c5,c6,c7,c8,_⟩:=h8
 refine NCall.pre (mL:=[hpB F,hpB F]) ?_ rfl (MemFits.dup F.le_refl [])
 refine ncall_of Tryz.func58 rfl (by decide) ?_
 (repeat' (first|(with_reducible first|(refine hK _ _ ?_;clear hK K)|(refine hK _ ?_;clear hK K))|((with_reducible refine gO ?_);(first|((with_reducible refine z25 ?_);intro K hK;(conv=>whnf))|(with_reducible refine z0 ?_)))|((first|((with_reducible refine gN ?_);(with_reducible refine NN.a5 ?_))|((with_reducible refine gH ?_);((((with_reducible refine NH.mk ?side ?_);case side=>(and_intros<;>first | with_reducible rfl | omega | ((first | exact hv1.ok | rfl)))))))|((with_reducible refine gC ?_);((with_reducible refine NCall.isF 20 ?_);refine NCall.subw [1] _ _ (cr) rfl (by decide) rfl ?_;rintro _ _ ⟨F1,v1,hle1,hv1,rfl,rfl⟩;refine ⟨Nat.le_of_ble_eq_true rfl,_,rfl,?_⟩))|(with_reducible refine NLd.of (by with_reducible assumption) ?_))<;>(conv=>whnf))|((with_reducible refine gNRK ?_);((with_reducible refine st_ordSout ?_)))|((with_reducible refine gNOK ?_);(first|(refine st_ordK1 rfl (by kernel_rfl) rfl ?_;intro K hK;(conv=>whnf))|(refine st_ordK0 rfl (by kernel_rfl) ?_)|(refine st_ordKA rfl rfl (by kernel_rfl) (by intro h;cases h) ?_)))|((with_reducible refine gNEK ?_);(first|(refine st_eachK ?_ ?_;(intro K hK;(conv=>whnf)))|exact st_eachK0))|((with_reducible refine gX ?_);(first|(refine st_orderS [1] rfl rfl (by kernel_rfl) _ rfl ?_)|(with_reducible first|refine z3 ?_|refine z4 ?_|refine z5 ?_)))|(with_reducible first|refine z1 ?_|refine z2 ?_)|((with_reducible refine gF ?_);((refine z33 rfl ?_);intro K hK;(conv=>whnf)))|((intro _;skip)<;>(conv=>whnf))))
 have hok1:=hv1.ok
 clear cr c0 c1 c2 c3 c4 c5 c6 c7 c8 hz hpz hle hple hmem hnd hris hol
 refine st_auto (α:=Value × Nat) (fun (w,i)=>i≤L.length) (fun (w,i)=>[.drop,.drop,.keep,.keep,.keep,.keep,.drop,.drop,.drop,.drop,.drop,.drop,.drop,.drop,.drop,.drop,.drop,.drop,.drop,.drop,.keep,.keep,.set (.int .i64 i),.drop,.drop,.drop,.drop,.drop,.drop,.drop,.drop,.drop,.drop,.drop,.drop,.drop,.drop,.drop,.drop,.drop,.drop,.drop,.drop,.drop,.drop,.drop,.drop,.drop,.drop,.keep,.keep,.keep,.keep,.keep,.keep,.keep,.keep])
  (fun (w,i)=>[.set (hpB F1),.set (hpB noHeap),.cells [.int .i64 s0,.int .i64 s1,.int .i64 s2,.int .i64 s3,.int .i64 s4,.sl 4 w i],.keep,.set ⟨addrOf w,Po.savs (L.take i),.row w 56 5 i⟩]) (fun (w,i)=>L.length - i) (.slice none 0 0,0) (Nat.zero_le _) ?_ ?_ ?_
 ·repeat (first|exact FitsSl.nil|refine FitsSl.any ?_|refine FitsSl.cons (Fit1.int (by first | rfl | omega)) ?_|refine FitsSl.cons (Fit1.same (by intro h;cases h) (by with_reducible rfl)) ?_)
 ·refine ((MemFits.pick (m':=[hpB F1,_,_]) [1,2,3] (by decide) rfl).trans ((MemFits.noHeap _).trans (MemFits.pick (m':=[_,_,_,_]) [1,0,2,3] (by decide) rfl))).trans ?_
  exact (MemFits.nilRow _ 56 5).trans (MemFits.congr rfl)
 (intro ⟨w,i⟩ hi;intro K hK;(conv=>whnf);refine hK _ _ ?_;clear hK K)
 dsimp only
 by_cases hlt:i<R.length
 ·obtain ⟨g0,g1,g2,g3,g4⟩:=RowF.get5 (f0:=fun s:Po.S=>.int .i64 s.port) (f1:=fun s=>.int .i64 s.p0) (f2:=fun s=>.int .i64 s.p1) (f3:=fun s=>.int .i64 s.p2) (f4:=fun s=>.int .i64 s.p3) hv1 hlt
  have hnx:=hnx i hlt
  have hln:(Po.savs (L.take i)).length=i*5:=by
   rw [Po.savs_len,List.length_take,Nat.min_eq_left (by omega)]
  have cc:=fun n k=>came31_c n k
  clear hsc
  generalize R[i]=x at *
  generalize hA:Po.savs (L.take i)=sv at *
  obtain ⟨x0,x1,x2,x3,x4⟩:=x
  simp only [Po.S.av,Tr.cameS] at *
  (repeat' (first|(with_reducible first|(refine hK _ _ ?_;clear hK K)|(refine hA ?_;clear hA hB A B)|(refine hB ?_;clear hA hB A B)|(refine hK _ ?_;clear hK K))|((with_reducible refine z25 ?_);intro K hK;(conv=>whnf))|(with_reducible refine z0 ?_)|((first|((with_reducible refine NV.i64 ?s ?_);case s=>omega)|((with_reducible refine NIf.decY ?s ?_);case s=>omega)|((with_reducible refine NIf.decN ?s ?_);case s=>omega)|(with_reducible first|refine NN.lit ?_|refine NN.cast ?_|refine NN.a3 ?_|refine NN.a5 ?_|refine NN.keep ?_)|((with_reducible refine NH.mk ?s ?_);case s=>(and_intros<;>first|with_reducible rfl|((with_reducible refine gOnes ?_);rfl)|((with_reducible refine gLen ?_);rfl)|((with_reducible refine gKept ?_);exact rfl)|omega|rfl))|((with_reducible refine NCall.isF 89 ?_);refine NCall.pureE (cc _ _) ?_)|(with_reducible refine NLd.of (by with_reducible assumption) ?_))<;>(conv=>whnf))|(with_reducible refine st_ordSout ?_)|((with_reducible refine gNOK ?_);(first|(refine st_ordK1 rfl (by kernel_rfl) rfl ?_;intro K hK;(conv=>whnf))|refine st_ordK0 rfl (by kernel_rfl) ?_|refine st_ordKA rfl rfl (by kernel_rfl) (by intro h;cases h) ?_))|((with_reducible refine gNEK ?_);(first|(refine st_eachK ?_ ?_;(intro K hK;(conv=>whnf)))|exact st_eachK0))|((with_reducible refine gX ?_);(first|(with_reducible refine st_rounds 5 ?_)|refine st_orderS [5] rfl rfl (by kernel_rfl) _ rfl ?_|(with_reducible first|refine z3 ?_|refine z4 ?_|refine z5 ?_|refine z6 ?_|refine z7 ?_)|((with_reducible refine z29 ?_);intro A B hA hB;(conv=>whnf))))|(with_reducible first|refine z1 ?_|refine z2 ?_|refine z9 ?_|refine z10 ?_|refine z11 ?_|refine z21 ?_|refine z22 ?_)|((intro _;skip)<;>(conv=>whnf))))
  all_goals
   rename_i v9
   refine st_round (v9,i+1) (by show i+1≤L.length;omega) (by show L.length - (i+1)<L.length - i;omega) ?_ (MemFits.pre 5 ?_)
   ·repeat (first|exact FitsSl.nil|refine FitsSl.any ?_|refine FitsSl.cons (Fit1.int (by first | rfl | omega)) ?_|refine FitsSl.cons (Fit1.same (by intro h;cases h) (by with_reducible rfl)) ?_)
   ·simp only [autoM,hnx]
    rfl
 ·obtain rfl:i=L.length:=by omega
  rw [List.take_length]
  (repeat' (first|(with_reducible first|(refine hK _ _ ?_;clear hK K)|(refine hB ?_;clear hA hB A B)|(refine hK _ ?_;clear hK K))|((with_reducible refine z25 ?_);intro K hK;(conv=>whnf))|(with_reducible refine z0 ?_)|((first|((with_reducible refine NIf.decN ?s ?_);case s=>omega)|(with_reducible refine NN.a5 ?_)|((with_reducible refine NH.mk ?s ?_);case s=>(and_intros<;>first|with_reducible rfl|((with_reducible refine gOnes ?_);rfl)|((with_reducible refine gLen ?_);rfl)))|((with_reducible refine NCall.isF 41 ?_);refine NCall.subw [4] _ _ (sortf_c w 56 L (by omega)) rfl (by decide) rfl ?_;rintro _ _ ⟨rfl,L2,hp2,hs2,rfl⟩;refine ⟨Nat.le_of_ble_eq_true rfl,_,rfl,?_⟩)|((with_reducible refine NCall.isF 90 ?_);refine NCall.subE [4] (hsc w L2 hp2 hs2) rfl (by decide) rfl rfl ?_))<;>(conv=>whnf))|(with_reducible first|refine z3 ?_|refine z4 ?_|refine z7 ?_|refine z8 ?_)|((with_reducible refine z29 ?_);intro A B hA hB;(conv=>whnf))|(with_reducible first|refine z1 ?_|refine z2 ?_|refine z10 ?_|refine z11 ?_|refine z19 ?_)|((with_reducible refine gR ?_);(refine z31 rfl ?_;intro K hK;(conv=>whnf)))))
  all_goals exact ⟨F1,w,hle1,rfl,MemFits.pick [0,4] (by decide) rfl⟩
end Go.Proofs.YtaolcaggdddkpaaGreat
