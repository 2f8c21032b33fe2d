import Derived.Test.YtaolcaggdddkpaaGreatJ21
import Derived.Test.YtaolcaggdddkpaaGreatJ14
import Derived.Test.YtaolcaggdddkpaaGreatJ5
import Derived.Test.YtaolcaggdddkpaaGreatProg
namespace Go.Proofs.YtaolcaggdddkpaaGreat
open Go.Sx
set_option maxRecDepth 20000
set_option linter.unusedSimpArgs false
set_option linter.unusedVariables false
set_option maxHeartbeats 16000000
theorem from31_0 (F:Heap) (y:Po.T) (sw:Int) (pu u:Value) (s:Po.S) (hs:Po.tot y≤4611686018427387904) (hf:Po.fits y=true) (hwd:Po.wide y<1000) (hl:∀ s,(Po.runs sw y s).length≤1000) (hy:Po.At F y pu u) :
  NCall Tryz.prog 32 [.agg (Po.cs y pu u),.int .i64 sw,.int .i64 5,.agg [.int .i64 s.port,.int .i64 s.p0,.int .i64 s.p1,.int .i64 s.p2,.int .i64 s.p3,.raw (.slice none 0 0)]] [hpB F] fun r m=>Tr.Lays F [⟨s,Tr.outs sw y s⟩] r m:=by
 refine Tr.rows_know (t:=78) ?_
 have cl:=reflast31_c F sw y pu u s hs hf hwd (hl s) hy
 have hok:=hy.l.ok
 have hpok:=hy.p.ok
 generalize Tr.outs sw y s=O at *
 clear hl hf hs hy hwd
 obtain ⟨yk,⟨ypk,ypf,ypv,ypl⟩,yf,yv,yl⟩:=y
 obtain ⟨s0,s1,s2,s3,s4⟩:=s
 simp only [Tr.Lay1,Tr.cs,Po.cs,Po.T.k,Po.T.p,Po.T.f,Po.T.v,Po.T.l,Pd.T.k,Pd.T.f,Pd.T.v,Pd.T.l] at *
 refine ncall_of Tryz.func32 rfl (by decide) ?_
 (repeat' (first|(with_reducible first|(refine hK _ _ ?_;clear hK K)|(refine hA ?_;clear hA hB A B)|(refine hK _ ?_;clear hK K))|((with_reducible refine z25 ?_);intro K hK;(conv=>whnf))|(with_reducible refine z0 ?_)|((first|((with_reducible refine NIf.decY ?s ?_);case s=>with_reducible rfl)|((with_reducible refine NH.mk ?s ?_);case s=>(and_intros<;>first|with_reducible rfl|((with_reducible refine gLen ?_);rfl)|omega))|((with_reducible refine NCall.isF 63 ?_);refine NCall.subw [0] _ _ (cl) rfl (by decide) rfl ?_;rintro _ _ ⟨G,w,hle,hw,rfl,rfl⟩;refine ⟨Nat.le_of_ble_eq_true rfl,_,rfl,?_⟩))<;>(conv=>whnf))|(with_reducible first|refine z3 ?_|refine z4 ?_|refine z8 ?_)|((with_reducible refine z29 ?_);intro A B hA hB;(conv=>whnf))|(with_reducible first|refine z1 ?_|refine z2 ?_|refine z12 ?_)|((with_reducible refine gR ?_);(refine z31 rfl ?_;intro K hK;(conv=>whnf)))|((with_reducible refine gF ?_);(refine z33 rfl ?_;intro K hK;(conv=>whnf)))|((intro _;skip)<;>(conv=>whnf))))
 all_goals
  rename_i v9
  exact ⟨G,.slice (some ⟨v9,0,none⟩) 1 1,[⟨⟨⟨s0,s1,s2,s3,s4⟩,O⟩,w⟩],hle,rfl,fun p hp=>by rw [List.mem_singleton.1 hp];exact hw,rfl,MemFits.pick [0,3] (by decide) rfl⟩
theorem from31_1 (F:Heap) (y:Po.T) (sw:Int) (pu u:Value) (s:Po.S) (k:Int) (hk:0≤k∧k<5) (rest:List Int) (hs:Po.tot y≤4611686018427387904) (hf:Po.fits y=true) (hc:Tr.cnt y (Tr.fK k::rest)≤1000000) (hl:∀ s,(Po.runs sw y s).length≤1000) (hy:Po.At F y pu u)
  (ih:∀ (G:Heap) (s:Po.S),F.le G→NCall Tryz.prog 32 [.agg (Po.cs y pu u),.int .i64 sw,.int .i64 (k+1),.agg [.int .i64 s.port,.int .i64 s.p0,.int .i64 s.p1,.int .i64 s.p2,.int .i64 s.p3,.raw (.slice none 0 0)]] [hpB G] fun r m=>Tr.Lays G (Tr.cases sw y rest s) r m) :
  NCall Tryz.prog 32 [.agg (Po.cs y pu u),.int .i64 sw,.int .i64 k,.agg [.int .i64 s.port,.int .i64 s.p0,.int .i64 s.p1,.int .i64 s.p2,.int .i64 s.p3,.raw (.slice none 0 0)]] [hpB F] fun r m=>Tr.Lays F (Tr.cases sw y (Tr.fK k::rest) s) r m:=by
 refine Tr.rows_know (t:=78) ?_
 have hfo:=Tr.fK_ok (k:=k) (by omega)
 have hok:=hy.l.ok
 have hpok:=hy.p.ok
 have hcr:Tr.cnt y rest≤1000000:=by
  rw [Tr.cnt,Nat.succ_mul] at hc
  omega
 have hcl:=fun b=>Tr.cases_len sw y rest b
 have ca:=fun G v w b (hv:Tr.Row G v (Tr.cases sw y rest b)) (hw:Tr.Row G w (Tr.cases sw y rest s))=>refsame31_c G k (by omega) v w _ _ hv hw (by have:=hcl b;omega) (by have:=hcl s;omega) (Tr.cases_out_len sw y 1000 hl rest b) (Tr.cases_out_len sw y 1000 hl rest s)
 have c1:=(ih F s F.le_refl).mono (K':=fun r m=>∃ G w,F.le G∧Tr.Row G w (Tr.cases sw y rest s)∧SlOk w (Tr.cases sw y rest s).length∧r = .hs w (Tr.cases sw y rest s).length∧m=[hpB G]) fun r m ⟨G,w,h1,h2,h3,h4⟩=>⟨G,w,h1,h2,h2.ok,h3,h4⟩
 have hpl:=Tr.part_len sw y (Tr.fK k) rest s
 have hpn:=fun i h=>Tr.part_next sw y (Tr.fK k) rest s (i:=i) h
 have hp0:Tr.part sw y (Tr.fK k) rest s 0=[]:=rfl
 have hend:Tr.cases sw y (Tr.fK k::rest) s=Tr.part sw y (Tr.fK k) rest s (Po.values (Tr.fK k) y).length++Tr.cases sw y rest s:=Tr.cases_part sw y (Tr.fK k) rest s
 have hcm:(Po.values (Tr.fK k) y).length*Tr.cnt y rest≤1000000:=by
  rw [Tr.cnt,Nat.succ_mul] at hc
  omega
 have hvl:(Po.values (Tr.fK k) y).length≤1000000:=by
  have h1:=Nat.mul_le_mul_left (Po.values (Tr.fK k) y).length (Tr.cnt_pos y rest)
  omega
 have cf:=field31_c k (by omega)
 have cV:=fun G (h:F.le G)=>refvalues27_c G y pu u (Tr.fK k) (by have:=hfo;omega) hs (Po.At.mono h hy)
 rw [Po.asked_values _ y hf] at cV
 have cV:=fun G (h:F.le G)=>(cV G h).mono (K':=fun r m=>∃ G' v,G.le G'∧Srt.Row G' v (Po.values (Tr.fK k) y)∧SlOk v (Po.values (Tr.fK k) y).length∧r = .hs v (Po.values (Tr.fK k) y).length∧m=[hpB G']) fun r m ⟨G',v,h1,h2,h3,h4⟩=>⟨G',v,h1,h2,h2.ok,h3,h4⟩
 rw [hend]
 clear hend hl hc hf hs hy
 generalize Tr.part sw y (Tr.fK k) rest s=part at *
 generalize hvs:Po.values (Tr.fK k) y=vs at *
 generalize hot:Tr.cases sw y rest s=other at *
 have hol:other.length≤1000000:=by rw [← hot];have:=hcl s;omega
 have hcw:=fun v=>refwith31_c s k v (by omega)
 clear hvs
 generalize hfk:Tr.fK k=f at *
 obtain ⟨yk,⟨ypk,ypf,ypv,ypl⟩,yf,yv,yl⟩:=y
 simp only [Tr.Lay1,Tr.cs,Po.cs,Po.T.k,Po.T.p,Po.T.f,Po.T.v,Po.T.l,Pd.T.k,Pd.T.f,Pd.T.v,Pd.T.l] at *
 refine ncall_of Tryz.func32 rfl (by decide) ?_
 (repeat' (first|(with_reducible first|(refine hK _ _ ?_;clear hK K)|(refine hB ?_;clear hA hB A B)|(refine hK _ ?_;clear hK K))|((with_reducible refine z25 ?_);intro K hK;(conv=>whnf))|(with_reducible refine z0 ?_)|((first|((with_reducible refine NV.i64 ?s ?_);case s=>omega)|((with_reducible refine NIf.decN ?s ?_);case s=>omega)|((with_reducible refine NH.mk ?s ?_);case s=>(and_intros<;>first|with_reducible rfl|((with_reducible refine gKept ?_);exact rfl)|rfl))|((with_reducible refine NCall.isF 64 ?_);refine NCall.pureE (cf) ?_)|((with_reducible refine NCall.isF 32 ?_);refine NCall.subw [0] _ _ (c1) rfl (by decide) rfl ?_;rintro _ _ ⟨G0,w,hle,hw,hwo,rfl,rfl⟩;refine ⟨Nat.le_of_ble_eq_true rfl,_,rfl,?_⟩)|((with_reducible refine NCall.isF 21 ?_);refine NCall.subw [0] _ _ (cV G0 hle) rfl (by decide) rfl ?_;rintro _ _ ⟨G1,vv,hle1,hV,hVo,rfl,rfl⟩;refine ⟨Nat.le_of_ble_eq_true rfl,_,rfl,?_⟩))<;>(conv=>whnf))|(with_reducible refine st_ordSout ?_)|((with_reducible refine gNOK ?_);(first|(refine st_ordK1 rfl (by kernel_rfl) rfl ?_;intro K hK;(conv=>whnf))|refine st_ordK0 rfl (by kernel_rfl) ?_|refine st_ordKA rfl rfl (by kernel_rfl) (by intro h;cases h) ?_))|((with_reducible refine gNEK ?_);(first|(refine st_eachK ?_ ?_;(intro K hK;(conv=>whnf)))|exact st_eachK0))|((with_reducible refine gX ?_);(first|refine st_orderS [0] rfl rfl (by kernel_rfl) _ rfl ?_|(with_reducible first|refine z3 ?_|refine z4 ?_|refine z5 ?_|refine z6 ?_)|((with_reducible refine z29 ?_);intro A B hA hB;(conv=>whnf))))|(with_reducible first|refine z1 ?_|refine z2 ?_)|((with_reducible refine gF ?_);(refine z33 rfl ?_;intro K hK;(conv=>whnf)))|((intro _;skip)<;>(conv=>whnf))))
 all_goals first | (exfalso;omega) | skip
 have hw:=Tr.Row.mono hle1 hw
 have hle:=hle.trans hle1
 clear cV cf c1
 refine st_auto (α:=Heap × Value × List Tr.L × Nat) (fun (G,u,ps,i)=>G1.le G∧i≤vs.length∧ps.map (·.x)=part i∧∀ p∈ps,Po.SRow G p.v p.x.out) (fun (G,u,ps,i)=>[.keep,.keep,.keep,.keep,.keep,.keep,.keep,.keep,.keep,.keep,.keep,.set (.sl 3 u ps.length),.set (.int .i64 i),.drop,.keep,.keep,.keep,.keep,.keep,.keep,.keep,.keep,.keep,.keep,.keep,.keep,.keep,.keep,.keep,.keep,.keep,.drop,.drop,.drop,.drop,.drop,.drop,.drop,.drop,.drop,.drop,.drop,.drop,.drop,.drop,.drop,.drop,.drop,.drop,.drop,.drop,.drop,.drop,.drop,.drop,.drop,.drop,.keep,.keep,.keep])
  (fun (G,u,ps,i)=>[.set (hpB G),.keep,.keep,.set ⟨addrOf u,Tr.psC ps,.row u 78 6 ps.length⟩]) (fun (G,u,ps,i)=>vs.length - i) (G1,.slice none 0 0,[],0) ⟨G1.le_refl,Nat.zero_le _,hp0.symm,fun p hp=>by simp at hp⟩ ?_ ?_ ?_
 ·repeat (first|exact FitsSl.nil|refine FitsSl.any ?_|refine FitsSl.cons (Fit1.int (by first | rfl | omega)) ?_|refine FitsSl.cons (Fit1.bool rfl) ?_|refine FitsSl.cons (Fit1.same (by intro h;cases h) (by with_reducible rfl)) ?_|refine FitsSl.cons Fit1.nil_sl ?_)
 ·exact (MemFits.nilRow _ 78 6).trans (MemFits.congr rfl)
 (intro ⟨G,u9,ps,i⟩ ⟨hle2,hi,hmap,hall⟩;intro K hK;(conv=>whnf);refine hK _ _ ?_;clear hK K)
 dsimp only
 have hpsl:ps.length=(part i).length:=by rw [← hmap,List.length_map]
 have hpb:=hpl i hi
 have hwG:=Tr.Row.mono hle2 hw
 by_cases hlt:i<vs.length
 ·have hx:vs[i]?=some vs[i]:=List.getElem?_eq_getElem hlt
  have v0:=hle2.c _ _ (Tr.vget hV hx)
  have hnx:=hpn i hlt
  clear hpn hpl
  generalize vs[i]=v at *
  have cw:=hcw v
  have ci:=fun G' (h:G.le G')=>(ih G' (Tr.withK f v s) ((hle.trans hle2).trans h)).mono (K':=fun r m=>Tr.LaysR G' (Tr.cases sw (.mk yk (.mk ypk ypf ypv ypl) yf yv yl) rest (Tr.withK f v s)) r m) fun r m h=>Tr.Lays.reads h
  have ca:=fun G' v' (h1:Tr.Row G' v' (Tr.cases sw (.mk yk (.mk ypk ypf ypv ypl) yf yv yl) rest (Tr.withK f v s))) (h2:G.le G')=>ca G' v' w _ h1 (Tr.Row.mono h2 hwG)
  have hll:=hcl (Tr.withK f v s)
  clear ih hcl
  generalize hs2:Tr.withK f v s=s2 at *
  generalize Tr.cases sw (.mk yk (.mk ypk ypf ypv ypl) yf yv yl) rest s2=l at *
  have ci:=ci G G.le_refl
  by_cases hal:Tr.alike f l other=true
  ·rw [hal] at ca
   rw [Tr.some_,if_pos hal,List.append_nil] at hnx
   (repeat' (first|(with_reducible first|(refine hK _ _ ?_;clear hK K)|(refine hA ?_;clear hA hB A B)|(refine hB ?_;clear hA hB A B)|(refine hK _ ?_;clear hK K))|((with_reducible refine z25 ?_);intro K hK;(conv=>whnf))|(with_reducible refine z0 ?_)|((first|((with_reducible refine NV.i64 ?s ?_);case s=>omega)|with_reducible refine NIf.not_ ?_|((with_reducible refine NIf.decY ?s ?_);case s=>omega)|((with_reducible refine NIf.yes ?s ?_);case s=>rfl)|(with_reducible first|refine NN.cast ?_|refine NN.a2 ?_)|((with_reducible refine NH.mk ?s ?_);case s=>(and_intros<;>first|with_reducible rfl|omega))|((with_reducible refine NCall.isF 65 ?_);refine NCall.pureE (cw) ?_)|((with_reducible refine NCall.isF 32 ?_);refine NCall.subw [0] _ _ (ci) rfl (by decide) rfl ?_;rintro _ _ ⟨G2,v2,qs,hle3,hv2,hv2o,hq1,hq2,hq3,hq4,rfl,rfl⟩;refine ⟨Nat.le_of_ble_eq_true rfl,_,rfl,?_⟩)|((with_reducible refine NCall.isF 66 ?_);refine NCall.subE [0] (ca G2 v2 hv2 hle3) rfl (by decide) rfl rfl ?_)|(with_reducible refine NLd.of (by with_reducible assumption) ?_))<;>(conv=>whnf))|((with_reducible refine gNO ?_);(first|(refine z36 rfl (by kernel_rfl) ?_;intro K hK;(conv=>whnf))|refine z38 rfl (by kernel_rfl) ?_|refine z39 rfl rfl (by kernel_rfl) (by intro h;cases h) ?_))|((with_reducible refine gNE ?_);(first|(refine z40 ?_ ?_;(intro K hK;(conv=>whnf)))|exact z42))|((with_reducible refine gX ?_);(first|refine z35 (by kernel_rfl) _ rfl ?_|(with_reducible first|refine z3 ?_|refine z4 ?_|refine z5 ?_|refine z6 ?_)|((with_reducible refine z29 ?_);intro A B hA hB;(conv=>whnf))))|(with_reducible first|refine z1 ?_|refine z2 ?_|refine z9 ?_)))
   all_goals
    refine st_round (G2,u9,ps,i+1) ⟨hle2.trans hle3,hlt,hmap.trans hnx.symm,fun p hp=>Tr.srow_mono hle3 (hall p hp)⟩ (by show vs.length - (i+1)<vs.length - i;omega) ?_ (MemFits.eq rfl)
    repeat (first|exact FitsSl.nil|refine FitsSl.any ?_|refine FitsSl.cons (Fit1.int (by first | rfl | omega)) ?_|refine FitsSl.cons (Fit1.bool rfl) ?_|refine FitsSl.cons (Fit1.same (by intro h;cases h) (by with_reducible rfl)) ?_)
  ·have hal:Tr.alike f l other=false:=by simpa using hal
   rw [hal] at ca
   rw [Tr.some_,hal,if_neg (by decide)] at hnx
   have hpc:=Tr.psC_len ps
   have hapd:=fun qs=>Tr.psC_append ps qs
   generalize hpsc:Tr.psC ps=pc at *
   (repeat' (first|(with_reducible first|(refine hK _ _ ?_;clear hK K)|(refine hA ?_;clear hA hB A B)|(refine hK _ ?_;clear hK K))|((with_reducible refine gO ?_);(first|((with_reducible refine z25 ?_);intro K hK;(conv=>whnf))|(with_reducible refine z0 ?_)))|((first|((with_reducible refine gV ?_);(((with_reducible refine NV.i64 ?s ?_);case s=>omega)))|((with_reducible refine gI ?_);(first|with_reducible refine NIf.not_ ?_|((with_reducible refine NIf.decY ?s ?_);case s=>omega)|((with_reducible refine NIf.no ?s ?_);case s=>rfl)))|((with_reducible refine gN ?_);(with_reducible first|refine NN.cast ?_|refine NN.a2 ?_))|((with_reducible refine gH ?_);((((with_reducible refine NH.mk ?side ?_);case side=>(and_intros<;>first | with_reducible rfl | omega | ((first | exact Tr.ones_psC _ | rfl | assumption)))))))|((with_reducible refine gC ?_);(first|((with_reducible refine NCall.isF 65 ?_);refine NCall.pureE (cw) ?_)|((with_reducible refine NCall.isF 32 ?_);refine NCall.subw [0] _ _ (ci) rfl (by decide) rfl ?_;rintro _ _ ⟨G2,v2,qs,hle3,hv2,hv2o,hq1,hq2,hq3,hq4,rfl,rfl⟩;refine ⟨Nat.le_of_ble_eq_true rfl,_,rfl,?_⟩)|((with_reducible refine NCall.isF 66 ?_);refine NCall.subE [0] (ca G2 v2 hv2 hle3) rfl (by decide) rfl rfl ?_)))|(with_reducible refine NLd.of (by with_reducible assumption) ?_))<;>(conv=>whnf))|((with_reducible refine gNO ?_);(first|(refine z36 rfl (by kernel_rfl) ?_;intro K hK;(conv=>whnf))|(refine z38 rfl (by kernel_rfl) ?_)|(refine z39 rfl rfl (by kernel_rfl) (by intro h;cases h) ?_)))|((with_reducible refine gNE ?_);(first|(refine z40 ?_ ?_;(intro K hK;(conv=>whnf)))|exact z42))|(refine NRd.of (Tr.psC qs) hq3 hq4 ?_;conv=>whnf)|((with_reducible refine gX ?_);(first|(refine z35 (by kernel_rfl) _ rfl ?_)|(with_reducible first|refine z3 ?_|refine z4 ?_|refine z5 ?_|refine z6 ?_)|((with_reducible refine z29 ?_);intro A B hA hB;(conv=>whnf))))|(with_reducible first|refine z1 ?_|refine z2 ?_|refine z9 ?_)|((intro _;skip)<;>(conv=>whnf))))
   all_goals
    rename_i v9
    have hql:qs.length=l.length:=by rw [← hq1,List.length_map]
    refine st_round (G2,v9,ps++qs,i+1) ⟨hle2.trans hle3,hlt,by rw [List.map_append,hmap,hq1];exact hnx.symm,fun p hp=>?_⟩ (by show vs.length - (i+1)<vs.length - i;omega) ?_ (MemFits.pre 4 ?_)
    ·rcases List.mem_append.1 hp with hp | hp
     ·exact Tr.srow_mono hle3 (hall p hp)
     ·exact hq2 p hp
    ·simp only [List.length_append,hql]
     repeat (first|exact FitsSl.nil|refine FitsSl.any ?_|refine FitsSl.cons (Fit1.int (by first | rfl | omega)) ?_|refine FitsSl.cons (Fit1.bool rfl) ?_|refine FitsSl.cons (Fit1.same (by intro h;cases h) (by with_reducible rfl)) ?_)
    ·simp only [autoM,List.length_append,hql,hapd]
     rfl
 ·obtain rfl:i=vs.length:=by omega
  obtain ⟨qs,hq1,hq2,hq3,hq4⟩:=hwG.reads
  have hql:qs.length=other.length:=by rw [← hq1,List.length_map]
  have hpc:=Tr.psC_len ps
  have hapd:=Tr.psC_append ps qs
  generalize hpsc:Tr.psC ps=pc at *
  clear ih ca hcl
  (repeat' (first|(with_reducible first|(refine hK _ _ ?_;clear hK K)|(refine hB ?_;clear hA hB A B)|(refine hK _ ?_;clear hK K))|((with_reducible refine gO ?_);(first|((with_reducible refine z25 ?_);intro K hK;(conv=>whnf))|(with_reducible refine z0 ?_)))|((first|((with_reducible refine gI ?_);(((with_reducible refine NIf.decN ?s ?_);case s=>omega)))|((with_reducible refine gH ?_);((((with_reducible refine NH.mk ?side ?_);case side=>(and_intros<;>first | with_reducible rfl | omega | ((first | exact Tr.ones_psC _ | rfl | assumption))))))))<;>(conv=>whnf))|(refine NRd.of (Tr.psC qs) hq3 hq4 ?_;conv=>whnf)|((with_reducible refine gX ?_);(first|(with_reducible first|refine z3 ?_|refine z4 ?_|refine z7 ?_|refine z8 ?_)|((with_reducible refine z29 ?_);intro A B hA hB;(conv=>whnf))))|(with_reducible first|refine z1 ?_|refine z2 ?_|refine z10 ?_|refine z11 ?_|refine z19 ?_)|((with_reducible refine gR ?_);((refine z31 rfl ?_);intro K hK;(conv=>whnf)))|((intro _;skip)<;>(conv=>whnf))))
  all_goals
   rename_i v9
   refine ⟨G,v9,ps++qs,hle.trans hle2,by rw [List.map_append,hmap,hq1],fun p hp=>?_,rfl,?_⟩
   ·rcases List.mem_append.1 hp with hp | hp
    ·exact hall p hp
    ·exact hq2 p hp
   ·rw [hapd,List.length_append,hql]
    exact MemFits.pick [0,3] (by decide) rfl
theorem from31_c (y:Po.T) (sw:Int) (pu u:Value) (hs:Po.tot y≤4611686018427387904) (hf:Po.fits y=true) (hwd:Po.wide y<1000) (hl:∀ s,(Po.runs sw y s).length≤1000):∀ (fs:List Int) (k:Nat),k≤5→Tr.order.drop k=fs→∀ (F:Heap) (s:Po.S),Tr.cnt y fs≤1000000→Po.At F y pu u →
  NCall Tryz.prog 32 [.agg (Po.cs y pu u),.int .i64 sw,.int .i64 k,.agg [.int .i64 s.port,.int .i64 s.p0,.int .i64 s.p1,.int .i64 s.p2,.int .i64 s.p3,.raw (.slice none 0 0)]] [hpB F] fun r m=>Tr.Lays F (Tr.cases sw y fs s) r m
 | [],k,hk,hd,F,s,_,hy=>by
  have h5:k=5:=by
   have:=congrArg List.length hd
   simp [Tr.order] at this
   omega
  subst h5
  rw [Tr.cases]
  exact from31_0 F y sw pu u s hs hf hwd hl hy
 | f::rest,k,hk,hd,F,s,hc,hy=>by
  have h5:k<5:=by
   have:=congrArg List.length hd
   simp [Tr.order] at this
   omega
  have hfk:f=Tr.fK k∧Tr.order.drop (k+1)=rest:=by
   have:k=0∨k=1∨k=2∨k=3∨k=4:=by omega
   rcases this with rfl | rfl | rfl | rfl | rfl<;>(injection hd with h1 h2;exact ⟨h1.symm,h2⟩)
  obtain ⟨rfl,hr⟩:=hfk
  refine from31_1 F y sw pu u s k (by omega) rest hs hf hc hl hy fun G s' hG=>?_
  have c:=from31_c y sw pu u hs hf hwd hl rest (k+1) (by omega) hr G s' (by rw [Tr.cnt,Nat.succ_mul] at hc;omega) (Po.At.mono hG hy)
  exact c
set_option maxHeartbeats 4000000
namespace Tr
def idxN (q:C→Bool):List C→Nat→Int
 | [],_=>-1
 | x::l,n=>if q x=true then (n:Int) else idxN q l (n+1)
def idx (q:C→Bool) (l:List C):Int:=idxN q l 0
theorem idxN_drop (q:C→Bool) {l:List C} {i:Nat} {x:C} (hx:l[i]?=some x):idxN q (l.drop i) i=if q x=true then (i:Int) else idxN q (l.drop (i+1)) (i+1):=by
 obtain ⟨h1,rfl⟩:=List.getElem?_eq_some_iff.1 hx
 rw [List.drop_eq_getElem_cons h1,idxN]
theorem hit_eq (t:Po.S) (c:C):hit t c=(decide (c.s.p0 = -1∨c.s.p0=t.p0)&&(decide (c.s.p1 = -1∨c.s.p1=t.p1)&&(decide (c.s.p2 = -1∨c.s.p2=t.p2)&&(decide (c.s.p3 = -1∨c.s.p3=t.p3)&&decide (c.s.port = -1∨c.s.port=t.port))))):=by
 rw [Bool.eq_iff_iff]
 simp only [hit,decide_eq_true_eq,Bool.and_eq_true]
 constructor
 ·intro h
  exact ⟨h 0 (by decide),h 1 (by decide),h 2 (by decide),h 3 (by decide),h 4 (by decide)⟩
 ·rintro ⟨h0,h1,h2,h3,h4⟩ f hf
  simp only [order,List.mem_cons,List.not_mem_nil,or_false] at hf
  rcases hf with rfl | rfl | rfl | rfl | rfl
  ·exact h4
  ·exact h0
  ·exact h1
  ·exact h2
  ·exact h3
end Tr
theorem indexC_c (F:Heap) (q:Tr.C→Bool) (v:Value) (l:List Tr.C) (hv:Tr.Row F v l) (hn:l.length≤4611686018427387904) (g:FuncId) (captured:List AV)
  (hg:∀ x∈l,∀ A,Po.SRow F A x.out→NCall Tryz.prog g ([.agg (Tr.cs x A)]++captured) [hpB F] fun r m=>r = .bool (q x)∧m=[hpB F]) :
  NCall Tryz.prog 33 [.hs v l.length,.fn g [] captured] [hpB F] fun r m=>r = .int .i64 (Tr.idx q l)∧m=[hpB F]:=by
 have hok:=hv.ok
 have hd:=fun i x h=>Tr.idxN_drop q (l:=l) (i:=i) (x:=x) h
 refine ncall_of Tryz.func33 rfl (by decide) ?_
 (repeat' (first|(with_reducible first|(refine hK _ _ ?_;clear hK K)|(refine hK _ ?_;clear hK K))|((with_reducible refine z25 ?_);intro K hK;(conv=>whnf))|(with_reducible refine z0 ?_)|(((with_reducible refine NH.mk ?s ?_);case s=>(and_intros<;>omega))<;>(conv=>whnf))|(with_reducible first|refine z3 ?_|refine z4 ?_|refine z5 ?_|refine z1 ?_|refine z2 ?_)|((with_reducible refine gF ?_);(refine z33 rfl ?_;intro K hK;(conv=>whnf)))))
 refine st_auto (α:=Nat) (fun k=>k≤l.length∧Tr.idx q l=Tr.idxN q (l.drop k) k) (fun k=>[.keep,.keep,.keep,.keep,.drop,.drop,.keep,.keep,.set (.int .i64 k),.drop,.drop,.drop,.drop,.drop,.drop,.drop,.drop,.drop,.drop]) (fun _=>[]) (fun k=>l.length - k) 0 ⟨Nat.zero_le _,rfl⟩ ?_ (MemFits.eq rfl) ?_
 ·repeat (first|exact FitsSl.nil|refine FitsSl.any ?_|refine FitsSl.cons (Fit1.int (by first | rfl | omega)) ?_|refine FitsSl.cons (Fit1.same (by intro h;cases h) (by with_reducible rfl)) ?_)
 (intro k ⟨hk,he⟩;intro K hK;(conv=>whnf);refine hK _ _ ?_;clear hK K)
 by_cases hlt:k<l.length
 ·have hx:l[k]?=some l[k]:=List.getElem?_eq_getElem hlt
  obtain ⟨A,cap,hA,c0,c1,c2,c3,c4,c5⟩:=hv.get hx
  have c:=hg _ (List.getElem_mem hlt) _ hA
  have hoA:=hA.ok
  have hnx:=hd k _ hx
  clear hg hA hd
  generalize l[k]=x at *
  generalize hb:q x=b at *
  clear hb
  obtain ⟨⟨x0,x1,x2,x3,x4⟩,xo⟩:=x
  simp only [Tr.cs,List.cons_append,List.nil_append] at *
  cases b with
  | false =>
   rw [if_neg (by decide)] at hnx
   (repeat' (first|(with_reducible first|(refine hK _ _ ?_;clear hK K)|(refine hA ?_;clear hA hB A B)|(refine hB ?_;clear hA hB A B))|((with_reducible refine z25 ?_);intro K hK;(conv=>whnf))|(with_reducible refine z0 ?_)|((first|((with_reducible refine NV.i64 ?s ?_);case s=>omega)|((with_reducible refine NIf.decY ?s ?_);case s=>omega)|((with_reducible refine NIf.no ?s ?_);case s=>rfl)|(with_reducible first|refine NN.cast ?_|refine NN.keep ?_)|((with_reducible refine NH.mk ?s ?_);case s=>(and_intros<;>omega))|((with_reducible refine NCall.isF g ?_);refine NCall.subE [0] (c) rfl (by decide) rfl rfl ?_)|(with_reducible refine NLd.of (by with_reducible assumption) ?_))<;>(conv=>whnf))|(with_reducible first|refine z3 ?_|refine z4 ?_|refine z5 ?_|refine z6 ?_)|((with_reducible refine z29 ?_);intro A B hA hB;(conv=>whnf))|(with_reducible first|refine z1 ?_|refine z2 ?_|refine z9 ?_)))
   refine st_round (k+1) ⟨hlt,he.trans hnx⟩ (by omega) ?_ (MemFits.eq rfl)
   repeat (first|exact FitsSl.nil|refine FitsSl.any ?_|refine FitsSl.cons (Fit1.int (by first | rfl | omega)) ?_|refine FitsSl.cons (Fit1.same (by intro h;cases h) (by with_reducible rfl)) ?_)
  | true =>
   rw [if_pos rfl] at hnx
   rw [he,hnx]
   (repeat' (first|(with_reducible first|(refine hK _ _ ?_;clear hK K)|(refine hA ?_;clear hA hB A B)|(refine hK _ ?_;clear hK K))|((with_reducible refine z25 ?_);intro K hK;(conv=>whnf))|(with_reducible refine z0 ?_)|((first|((with_reducible refine NIf.decY ?s ?_);case s=>omega)|((with_reducible refine NIf.yes ?s ?_);case s=>rfl)|(with_reducible first|refine NN.cast ?_|refine NN.keep ?_)|((with_reducible refine NH.mk ?s ?_);case s=>(and_intros<;>omega))|((with_reducible refine NCall.isF g ?_);refine NCall.subE [0] (c) rfl (by decide) rfl rfl ?_)|(with_reducible refine NLd.of (by with_reducible assumption) ?_))<;>(conv=>whnf))|(with_reducible first|refine z3 ?_|refine z4 ?_|refine z5 ?_|refine z6 ?_|refine z8 ?_)|((with_reducible refine z29 ?_);intro A B hA hB;(conv=>whnf))|(with_reducible first|refine z1 ?_|refine z2 ?_|refine z12 ?_|refine z13 ?_|refine z20 ?_)|((with_reducible refine gR ?_);(refine z31 rfl ?_;intro K hK;(conv=>whnf)))))
   exact ⟨rfl,rfl⟩
 ·have hkl:k=l.length:=by omega
  subst hkl
  rw [List.drop_length] at he
  rw [he]
  (repeat' (first|(with_reducible first|(refine hK _ _ ?_;clear hK K)|(refine hB ?_;clear hA hB A B)|(refine hK _ ?_;clear hK K))|((with_reducible refine z25 ?_);intro K hK;(conv=>whnf))|(with_reducible refine z0 ?_)|(((with_reducible refine NIf.decN ?s ?_);case s=>omega)<;>(conv=>whnf))|(with_reducible first|refine z3 ?_|refine z4 ?_|refine z7 ?_|refine z8 ?_)|((with_reducible refine z29 ?_);intro A B hA hB;(conv=>whnf))|(with_reducible first|refine z1 ?_|refine z2 ?_|refine z10 ?_|refine z11 ?_|refine z19 ?_)|((with_reducible refine gR ?_);(refine z31 rfl ?_;intro K hK;(conv=>whnf)))))
  exact ⟨rfl,rfl⟩
theorem find1_c (F:Heap) (t:Po.S) (c:Tr.C) (A:Value) (hA:Po.SRow F A c.out) (pb tb:Addr) (hp:CellsF F pb 0 [.int .i64 t.p0,.int .i64 t.p1,.int .i64 t.p2,.int .i64 t.p3]) (ht:F.c (tb.add 0) (.int .i64 t.port)) :
  NCall Tryz.prog 34 [.agg (Tr.cs c A),.hp pb 0,.hp tb 0] [hpB F] fun r m=>r = .bool (Tr.hit t c)∧m=[hpB F]:=by
 refine NCall.fits (K:=fun r m=>r = .bool (Tr.hit t c)∧MemFits m [hpB F]) ?_ fun r m' h=>⟨r,_,rfl,h.2,h.1,rfl⟩
 have hoA:=hA.ok
 rw [Tr.hit_eq]
 have i0:=is31_c c.s.p0 t.p0
 have i1:=is31_c c.s.p1 t.p1
 have i2:=is31_c c.s.p2 t.p2
 have i3:=is31_c c.s.p3 t.p3
 have i4:=is31_c c.s.port t.port
 obtain ⟨e0,e1,e2,e3,_⟩:=hp
 have e1:F.c (pb.add ((0:Int)+1).toNat) (.int .i64 t.p1):=e1
 have e2:F.c (pb.add ((0:Int)+1+1).toNat) (.int .i64 t.p2):=e2
 have e3:F.c (pb.add ((0:Int)+1+1+1).toNat) (.int .i64 t.p3):=e3
 generalize decide (c.s.p0 = -1∨c.s.p0=t.p0)=d0 at *
 generalize decide (c.s.p1 = -1∨c.s.p1=t.p1)=d1 at *
 generalize decide (c.s.p2 = -1∨c.s.p2=t.p2)=d2 at *
 generalize decide (c.s.p3 = -1∨c.s.p3=t.p3)=d3 at *
 generalize decide (c.s.port = -1∨c.s.port=t.port)=d4 at *
 obtain ⟨⟨x0,x1,x2,x3,x4⟩,xo⟩:=c
 obtain ⟨t0,t1,t2,t3,t4⟩:=t
 simp only [Tr.cs] at *
 refine ncall_of Tryz.func34 rfl (by decide) ?_
 (repeat' (first|(with_reducible first|(refine hK _ _ ?_;clear hK K)|(refine hA ?_;clear hA hB A B)|(refine hB ?_;clear hA hB A B)|(refine hK _ ?_;clear hK K))|((with_reducible refine z25 ?_);intro K hK;(conv=>whnf))|(with_reducible refine z0 ?_)|((first|((with_reducible refine NV.i64 ?s ?_);case s=>omega)|with_reducible refine NIf.not_ ?_|((with_reducible refine NIf.decY ?s ?_);case s=>omega)|((with_reducible refine NIf.decN ?s ?_);case s=>omega)|(with_reducible first|refine NIf.both (fun _=>?_) (fun _=>?_)|refine NN.lit ?_|refine NN.a1 ?_|refine NN.a2 ?_|refine NN.a5 ?_|refine NN.keep ?_)|((with_reducible refine NH.mk ?s ?_);case s=>(and_intros<;>first|with_reducible rfl|omega))|((with_reducible refine NCall.isF 35 ?_);refine NCall.pureE (i0) ?_)|((with_reducible refine NCall.isF 35 ?_);refine NCall.pureE (i1) ?_)|((with_reducible refine NCall.isF 35 ?_);refine NCall.pureE (i2) ?_)|((with_reducible refine NCall.isF 35 ?_);refine NCall.pureE (i3) ?_)|((with_reducible refine NCall.isF 35 ?_);refine NCall.pureE (i4) ?_)|(with_reducible refine NLd.of (by with_reducible assumption) ?_))<;>(conv=>whnf))|(with_reducible first|refine st_rounds 5 ?_|refine z3 ?_|refine z4 ?_|refine z5 ?_|refine z6 ?_|refine z7 ?_|refine z8 ?_)|((with_reducible refine z29 ?_);intro A B hA hB;(conv=>whnf))|(with_reducible first|refine z1 ?_|refine z2 ?_|refine z9 ?_|refine z10 ?_|refine z11 ?_|refine z12 ?_|refine z13 ?_|refine z21 ?_|refine z22 ?_|refine z23 ?_)|((with_reducible refine gR ?_);(refine z31 rfl ?_;intro K hK;(conv=>whnf)))|((with_reducible refine gF ?_);(refine z33 rfl ?_;intro K hK;(conv=>whnf)))|((intro _;skip)<;>(conv=>whnf))))
 all_goals exact ⟨by simp_all,MemFits.pre 1 rfl⟩
theorem find31_c (F:Heap) (t:Po.S) (v:Value) (l:List Tr.C) (hv:Tr.Row F v l) (hn:l.length≤4611686018427387904) :
  NCall Tryz.prog 13 [.hs v l.length,.int .i64 t.port,.agg [.int .i64 t.p0,.int .i64 t.p1,.int .i64 t.p2,.int .i64 t.p3]] [hpB F] fun r m=>r = .int .i64 (Tr.idx (Tr.hit t) l)∧m=[hpB F]:=by
 refine NCall.fits (K:=fun r m=>r = .int .i64 (Tr.idx (Tr.hit t) l)∧MemFits m [hpB F]) ?_ fun r m' h=>⟨r,_,rfl,h.2,h.1,rfl⟩
 have hok:=hv.ok
 have kE:∀ a b:Nat,NCall Tryz.prog 33 [.hs v l.length,.fn 34 [] [.ptr 2 ⟨b,0,none⟩ 0,.ptr 1 ⟨a,0,none⟩ 0]] [hpB F,⟨⟨a,0,none⟩,[.int .i64 t.port],.var 3⟩,⟨⟨b,0,none⟩,[.int .i64 t.p0,.int .i64 t.p1,.int .i64 t.p2,.int .i64 t.p3],.var 29⟩] fun r m=>r = .int .i64 (Tr.idx (Tr.hit t) l)∧m=[hpB F,⟨⟨a,0,none⟩,[.int .i64 t.port],.var 3⟩,⟨⟨b,0,none⟩,[.int .i64 t.p0,.int .i64 t.p1,.int .i64 t.p2,.int .i64 t.p3],.var 29⟩]:=fun a b=>by
  have hnew:=addF.new (F:=F) (a:=⟨a,0,none⟩) (vs:=denL [.int .i64 t.port])
  obtain ⟨d0,_⟩:=hnew
  exact NCall.keep (indexC_c (addF (addF F ⟨a,0,none⟩ (denL [.int .i64 t.port])) ⟨b,0,none⟩ (denL [.int .i64 t.p0,.int .i64 t.p1,.int .i64 t.p2,.int .i64 t.p3])) (Tr.hit t) v l (Tr.Row.mono (addF.old.trans addF.old) hv) hn 34 [.hp ⟨b,0,none⟩ 0,.hp ⟨a,0,none⟩ 0] fun x hx A hA=>find1_c _ t x A hA _ _ addF.new (addF.old.c _ _ d0)) rfl ((MemFits.freezeVar (m:=[_])).trans (MemFits.freezeVar (m:=[]))) rfl fun r mL' h=>⟨r,rfl,h.1,rfl⟩
 generalize Tr.idx (Tr.hit t) l=z at *
 obtain ⟨t0,t1,t2,t3,t4⟩:=t
 simp only at *
 refine ncall_of Tryz.func13 rfl (by decide) ?_
 (repeat' (first|(with_reducible first|(refine hK _ _ ?_;clear hK K)|(refine hK _ ?_;clear hK K))|((with_reducible refine z25 ?_);intro K hK;(conv=>whnf))|(with_reducible refine z0 ?_)|(((with_reducible refine NCall.isF 33 ?_);refine NCall.subE [0,1,2] (kE _ _) rfl (by decide) rfl rfl ?_)<;>(conv=>whnf))|(with_reducible first|refine z3 ?_|refine z4 ?_|refine z8 ?_|refine z1 ?_|refine z2 ?_)|((with_reducible refine gR ?_);(refine z31 rfl ?_;intro K hK;(conv=>whnf)))|((with_reducible refine gF ?_);(refine z33 rfl ?_;intro K hK;(conv=>whnf)))|((intro _;skip)<;>(conv=>whnf))))
 all_goals exact ⟨rfl,MemFits.pre 1 rfl⟩
namespace Tp
end Tp
section
variable (F:Heap)
end
end Go.Proofs.YtaolcaggdddkpaaGreat
