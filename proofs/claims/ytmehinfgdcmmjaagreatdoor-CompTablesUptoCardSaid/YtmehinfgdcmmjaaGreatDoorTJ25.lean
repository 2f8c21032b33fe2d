/- A part of the proof. -/
import Derived.Test.YtmehinfgdcmmjaaGreatDoorTJ17
import Derived.Test.YtmehinfgdcmmjaaGreatDoorTJ22
import Derived.Test.YtmehinfgdcmmjaaGreatDoorTPl7
namespace Go.Proofs.YtmehinfgdcmmjaaGreatDoor
open Go.Sx
set_option maxRecDepth 20000
set_option linter.unusedSimpArgs false
set_option linter.unusedVariables false
set_option maxHeartbeats 16000000
theorem Tr.came_yes {a b:Int} (h:a=b):Tr.came a b = -1:=if_pos h
theorem Tr.came_no {a b:Int} (h:¬ a=b):Tr.came a b=a:=if_neg h
theorem jj (F:Heap) (sw:Int) (y:Po.T) (pu u:Value) (s:Po.S) (hs:Po.tot y≤4611686018427387904) (hf:Po.fits y=true) (hwd:Po.wide y<1000) (hl:(Po.runs sw y s).length≤1000) (hy:Po.At F y pu u) :
  Qz Tryz.prog 118 [.agg (Po.cs y pu u),.int .i64 sw,.agg [.int .i64 s.port,.int .i64 s.p0,.int .i64 s.p1,.int .i64 s.p2,.int .i64 s.p3,.raw (.slice none 0 0)]] [hpB F] fun r m=>Tr.Lay1 F ⟨s,Tr.outs sw y s⟩ r m:=by
 refine Qz.fits (K:=fun r m=>∃ F' v,F.le F'∧Po.SRow F' v (Tr.outs sw y s)∧r = .agg (Tr.cs ⟨s,Tr.outs sw y s⟩ v)∧Qw m [hpB F']) ?_ fun r m' ⟨F',v,h1,h2,h3,h4⟩=>⟨r,_,rfl,h4,F',v,h1,h2,h3,rfl⟩
 have cr:=cL sw _ F y pu u s (Nat.le_refl _) hs hf hwd hy
 have hok:=hy.l.ok
 have hpok:=hy.p.ok
 unfold Tr.outs
 generalize Po.runs sw y s=R at *
 have hLR:(R.map (Tr.cameS s)).length=R.length:=List.length_map _
 have hLi:∀ i (h:i<R.length),∃ h2:i<(R.map (Tr.cameS s)).length,(R.map (Tr.cameS s))[i]=Tr.cameS s R[i]:=fun i h=>⟨by rw [hLR];exact h,by simp⟩
 generalize R.map (Tr.cameS s)=L at *
 clear hf hs hy hwd
 obtain ⟨yk,⟨ypk,ypf,ypv,ypl⟩,yf,yv,yl⟩:=y
 obtain ⟨s0,s1,s2,s3,s4⟩:=s
 simp only [Po.Sents,Po.cs,Po.T.k,Po.T.p,Po.T.f,Po.T.v,Po.T.l,Pd.T.k,Pd.T.f,Pd.T.v,Pd.T.l,Tr.cs,Tr.cameS] at *
 refine aB Tryz.func118 rfl (by decide) ?_
 repeat' first|((try intro K hK);(with_reducible refine gC ?_);(refine cN [0] cr ?_;rintro _ _ ⟨F1,v1,hle1,hv1,rfl,rfl⟩;refine cR ?_))|((try intro K hK);(with_reducible refine NH.mk ?s ?_);(case s=>(and_intros<;>first|with_reducible rfl|omega|(first | exact hv1.ok | rfl)));conv=>whnf)|(refine sxZ ?_;try clear hK K)|refine sxW ?_ ?_<;>intro _|(intro K hK _;conv=>whnf)
 have hok1:=hv1.ok
 clear cr
 refine aE (α:=Heap × Value × Nat) (fun (G,w,i)=>F1.le G∧i≤R.length∧Po.SRow G w (Po.both [] (L.take i))) (fun (G,w,i)=>[.d,.d,.d,.k,.k,.k,.k,.k,.set (.int .i64 i),.d,.d,.k,.k,.k,.k,.k,.k,.k,.d,.d,.d,.d,.d,.d,.d,.d,.d,.d,.d,.d,.d,.d,.d,.d,.d,.d,.d,.d,.d,.d,.d,.d,.d,.d,.d,.d,.d,.d,.d,.k])
  (fun (G,w,i)=>[.set (hpB G),.k,.cells [.int .i64 s0,.int .i64 s1,.int .i64 s2,.int .i64 s3,.int .i64 s4,.hs w (Po.both [] (L.take i)).length],.k]) (fun (G,w,i)=>R.length - i) (F1,.slice none 0 0,0) ⟨F1.le_refl,Nat.zero_le _,aI.nil⟩ ?_ ?_ ?_
 ·exact aD
 ·exact Qw.congr rfl
 (intro ⟨G,w,i⟩ ⟨hle2,hi,hw⟩;intro K hK;(conv=>whnf);refine hK _ _ ?_;clear hK K)
 dsimp only
 have hln:=Po.both_len (L.take i) []
 rw [List.length_take] at hln
 simp only [List.length_nil] at hln
 by_cases hlt:i<R.length
 ·obtain ⟨g0,g1,g2,g3,g4⟩:=aI.get5 (f0:=fun s:Po.S=>.int .i64 s.port) (f1:=fun s=>.int .i64 s.p0) (f2:=fun s=>.int .i64 s.p1) (f3:=fun s=>.int .i64 s.p2) (f4:=fun s=>.int .i64 s.p3) (Tr.srow_mono hle2 hv1) hlt
  obtain ⟨hL2,eL⟩:=hLi i hlt
  have cp:=mC G w (Po.both [] (L.take i)) L[i] (by omega) hw
  have hnx:=Po.both_take [] hL2
  rw [← hnx,eL] at cp
  have hwo:=hw.ok
  clear hnx eL hLi
  generalize Po.both [] (L.take i)=B at *
  generalize hB2:Po.both [] (L.take (i+1))=B2 at *
  generalize R[i]=x at *
  obtain ⟨x0,x1,x2,x3,x4⟩:=x
  simp only [Po.S.av,Po.Sents] at *
  repeat' first|(refine sxZ ?_;try clear hK K)|refine sxW ?_ ?_<;>intro _|(intro K hK _;conv=>whnf)
  rename_i b9
  refine aE (α:=Nat) (fun j=>j≤4) (fun j=>[.k,.k,.k,.k,.k,.k,.k,.k,.k,.k,.set (.int .i64 j),.k,.k,.k,.k,.k,.k,.k,.k,.k,.k,.k,.k,.k,.k,.k,.k,.k,.d,.d,.d,.d,.d,.d,.d,.d,.d,.d,.d,.d,.d,.d,.d,.d,.k,.k,.k,.k,.k,.k]) (fun j=>[.k,.k,.k,.k,.cells (Tr.cellsAt x0 (Tr.came x1 s1) (Tr.came x2 s2) (Tr.came x3 s3) (Tr.came x4 s4) x1 x2 x3 x4 j)]) (fun j=>4 - j) 0 (Nat.zero_le _) ?_ ?_ ?_
  ·exact aD
  ·exact Qw.congr rfl
  (intro j hj;intro K hK;(conv=>whnf);refine hK _ _ ?_;clear hK K)
  have hj:j≤4:=hj
  have:j=0∨j=1∨j=2∨j=3∨j=4:=by omega
  rcases this with rfl | rfl | rfl | rfl | rfl
  ·dsimp only [Tr.cellsAt]
   by_cases hx:x1=s1
   all_goals
    repeat' first|(refine aJ [4] ?_;try clear hK K)|refine sxW ?_ ?_<;>intro _|refine aK ?_ ?_|(intro K hK _;conv=>whnf)
    all_goals first | (exfalso;omega) | skip
    all_goals
     refine aC 1 (by decide) (by decide) ?_ ?_
     ·exact aD
     ·exact Qw.congr (by simp only [autoM,Tr.cellsAt];first | (rw [Tr.came_yes hx];done) | (rw [Tr.came_no hx];done) | (rw [Tr.came_yes hx];rfl) | (rw [Tr.came_no hx];rfl))
  ·dsimp only [Tr.cellsAt]
   by_cases hx:x2=s2
   all_goals
    repeat' first|(refine aJ [4] ?_;try clear hK K)|refine sxW ?_ ?_<;>intro _|refine aK ?_ ?_|(intro K hK _;conv=>whnf)
    all_goals first | (exfalso;omega) | skip
    all_goals
     refine aC 2 (by decide) (by decide) ?_ ?_
     ·exact aD
     ·exact Qw.congr (by simp only [autoM,Tr.cellsAt];first | (rw [Tr.came_yes hx];done) | (rw [Tr.came_no hx];done) | (rw [Tr.came_yes hx];rfl) | (rw [Tr.came_no hx];rfl))
  ·dsimp only [Tr.cellsAt]
   by_cases hx:x3=s3
   all_goals
    repeat' first|(refine aJ [4] ?_;try clear hK K)|refine sxW ?_ ?_<;>intro _|refine aK ?_ ?_|(intro K hK _;conv=>whnf)
    all_goals first | (exfalso;omega) | skip
    all_goals
     refine aC 3 (by decide) (by decide) ?_ ?_
     ·exact aD
     ·exact Qw.congr (by simp only [autoM,Tr.cellsAt];first | (rw [Tr.came_yes hx];done) | (rw [Tr.came_no hx];done) | (rw [Tr.came_yes hx];rfl) | (rw [Tr.came_no hx];rfl))
  ·dsimp only [Tr.cellsAt]
   by_cases hx:x4=s4
   all_goals
    repeat' first|(refine aJ [4] ?_;try clear hK K)|refine sxW ?_ ?_<;>intro _|refine aK ?_ ?_|(intro K hK _;conv=>whnf)
    all_goals first | (exfalso;omega) | skip
    all_goals
     refine aC 4 (by decide) (by decide) ?_ ?_
     ·exact aD
     ·exact Qw.congr (by simp only [autoM,Tr.cellsAt];first | (rw [Tr.came_yes hx];done) | (rw [Tr.came_no hx];done) | (rw [Tr.came_yes hx];rfl) | (rw [Tr.came_no hx];rfl))
  ·dsimp only [Tr.cellsAt]
   repeat' first|(intro K hK;(with_reducible refine gC ?_);(refine cN [0] cp ?_;rintro _ _ ⟨G2,w2,hle3,hw2,rfl,rfl⟩;refine cR ?_))|(refine sxZ ?_;try clear hK K)|refine sxW ?_ ?_<;>intro _|(intro K hK _;conv=>whnf)
   all_goals
    refine aC (G2,w2,i+1) ⟨hle2.trans hle3,hlt,hB2 ▸ hw2⟩ (by show R.length - (i+1)<R.length - i;omega) ?_ (Qw.pre 4 ?_)
    ·exact aD
    ·dsimp only
     rw [hB2]
     rfl
 ·obtain rfl:i=L.length:=by omega
  rw [List.take_length] at *
  repeat' first|(refine sxZ ?_;try clear hK K)|refine sxW ?_ ?_<;>intro _|(intro K hK _;conv=>whnf)
  all_goals exact ⟨G,w,hle1.trans hle2,hw,rfl,Qw.pre 1 rfl⟩
theorem oy (F:Heap) (y:Po.T) (sw:Int) (pu u:Value) (s:Po.S) (hs:Po.tot y≤4611686018427387904) (hf:Po.fits y=true) (hwd:Po.wide y<1000) (hl:∀ s,(Po.runs sw y s).length≤1000) (hy:Po.At F y pu u) :
  Qz Tryz.prog 77 [.agg (Po.cs y pu u),.int .i64 sw,.int .i64 5,.agg [.int .i64 s.port,.int .i64 s.p0,.int .i64 s.p1,.int .i64 s.p2,.int .i64 s.p3,.raw (.slice none 0 0)]] [hpB F] fun r m=>Tr.Lays F [⟨s,Tr.outs sw y s⟩] r m:=by
 refine Tr.rows_know (t:=101) ?_
 have cl:=jj F sw y pu u s hs hf hwd (hl s) hy
 have hok:=hy.l.ok
 have hpok:=hy.p.ok
 generalize Tr.outs sw y s=O at *
 clear hl hf hs hy hwd
 obtain ⟨yk,⟨ypk,ypf,ypv,ypl⟩,yf,yv,yl⟩:=y
 obtain ⟨s0,s1,s2,s3,s4⟩:=s
 simp only [Tr.Lay1,Tr.cs,Po.cs,Po.T.k,Po.T.p,Po.T.f,Po.T.v,Po.T.l,Pd.T.k,Pd.T.f,Pd.T.v,Pd.T.l] at *
 refine aB Tryz.func77 rfl (by decide) ?_
 repeat' first|(intro K hK;(with_reducible refine gC ?_);(refine cN [0] cl ?_;rintro _ _ ⟨G,w,hle,hw,rfl,rfl⟩;refine cR ?_))|(refine sxZ ?_;try clear hK K)|refine sxW ?_ ?_<;>intro _|(intro K hK _;conv=>whnf)
 all_goals
  rename_i v9
  exact ⟨G,.slice (some ⟨v9,0,none⟩) 1 1,[⟨⟨⟨s0,s1,s2,s3,s4⟩,O⟩,w⟩],hle,rfl,fun p hp=>by rw [List.mem_singleton.1 hp];exact hw,rfl,Qw.pick [0,3] (by decide) rfl⟩
theorem ox (F:Heap) (y:Po.T) (sw:Int) (pu u:Value) (s:Po.S) (k:Int) (hk:0≤k∧k<5) (rest:List Int) (hs:Po.tot y≤4611686018427387904) (hf:Po.fits y=true) (hc:Tr.cnt y (Tr.fK k::rest)≤1000000) (hl:∀ s,(Po.runs sw y s).length≤1000) (hy:Po.At F y pu u)
  (ih:∀ (G:Heap) (s:Po.S),F.le G→Qz Tryz.prog 77 [.agg (Po.cs y pu u),.int .i64 sw,.int .i64 (k+1),.agg [.int .i64 s.port,.int .i64 s.p0,.int .i64 s.p1,.int .i64 s.p2,.int .i64 s.p3,.raw (.slice none 0 0)]] [hpB G] fun r m=>Tr.Lays G (Tr.cases sw y rest s) r m) :
  Qz Tryz.prog 77 [.agg (Po.cs y pu u),.int .i64 sw,.int .i64 k,.agg [.int .i64 s.port,.int .i64 s.p0,.int .i64 s.p1,.int .i64 s.p2,.int .i64 s.p3,.raw (.slice none 0 0)]] [hpB F] fun r m=>Tr.Lays F (Tr.cases sw y (Tr.fK k::rest) s) r m:=by
 refine Tr.rows_know (t:=101) ?_
 have hfo:=Tr.fK_ok (k:=k) (by omega)
 have hok:=hy.l.ok
 have hpok:=hy.p.ok
 have hcr:Tr.cnt y rest≤1000000:=by
  rw [Tr.cnt,Nat.succ_mul] at hc
  omega
 have hcl:=fun b=>Tr.cases_len sw y rest b
 have ca:=fun G v w b (hv:Tr.Row G v (Tr.cases sw y rest b)) (hw:Tr.Row G w (Tr.cases sw y rest s))=>jh G k (by omega) v w _ _ hv hw (by have:=hcl b;omega) (by have:=hcl s;omega) (Tr.cases_out_len sw y 1000 hl rest b) (Tr.cases_out_len sw y 1000 hl rest s)
 have c1:=(ih F s F.le_refl).mono (K':=fun r m=>∃ G w,F.le G∧Tr.Row G w (Tr.cases sw y rest s)∧SlOk w (Tr.cases sw y rest s).length∧r = .hs w (Tr.cases sw y rest s).length∧m=[hpB G]) fun r m ⟨G,w,h1,h2,h3,h4⟩=>⟨G,w,h1,h2,h2.ok,h3,h4⟩
 have hpl:=Tr.part_len sw y (Tr.fK k) rest s
 have hpn:=fun i h=>Tr.part_next sw y (Tr.fK k) rest s (i:=i) h
 have hp0:Tr.part sw y (Tr.fK k) rest s 0=[]:=rfl
 have hend:Tr.cases sw y (Tr.fK k::rest) s=Tr.part sw y (Tr.fK k) rest s (Po.values (Tr.fK k) y).length++Tr.cases sw y rest s:=Tr.cases_part sw y (Tr.fK k) rest s
 have hcm:(Po.values (Tr.fK k) y).length*Tr.cnt y rest≤1000000:=by
  rw [Tr.cnt,Nat.succ_mul] at hc
  omega
 have hvl:(Po.values (Tr.fK k) y).length≤1000000:=by
  have h1:=Nat.mul_le_mul_left (Po.values (Tr.fK k) y).length (Tr.cnt_pos y rest)
  omega
 have cf:=nZ k (by omega)
 have cV:=fun G (h:F.le G)=>eD G y pu u (Tr.fK k) (by have:=hfo;omega) hs (Po.At.mono h hy)
 rw [Po.asked_values _ y hf] at cV
 have cV:=fun G (h:F.le G)=>(cV G h).mono (K':=fun r m=>∃ G' v,G.le G'∧Srt.Row G' v (Po.values (Tr.fK k) y)∧SlOk v (Po.values (Tr.fK k) y).length∧r = .hs v (Po.values (Tr.fK k) y).length∧m=[hpB G']) fun r m ⟨G',v,h1,h2,h3,h4⟩=>⟨G',v,h1,h2,h2.ok,h3,h4⟩
 rw [hend]
 clear hend hl hc hf hs hy
 generalize Tr.part sw y (Tr.fK k) rest s=part at *
 generalize hvs:Po.values (Tr.fK k) y=vs at *
 generalize hot:Tr.cases sw y rest s=other at *
 have hol:other.length≤1000000:=by rw [← hot];have:=hcl s;omega
 have hcw:=fun v=>jf s k v (by omega)
 clear hvs
 generalize hfk:Tr.fK k=f at *
 obtain ⟨yk,⟨ypk,ypf,ypv,ypl⟩,yf,yv,yl⟩:=y
 simp only [Tr.Lay1,Tr.cs,Po.cs,Po.T.k,Po.T.p,Po.T.f,Po.T.v,Po.T.l,Pd.T.k,Pd.T.f,Pd.T.v,Pd.T.l] at *
 refine aB Tryz.func77 rfl (by decide) ?_
 repeat' first|(intro K hK;(with_reducible refine gC ?_);first|refine cP cf ?_|(refine cN [0] c1 ?_;rintro _ _ ⟨G0,w,hle,hw,hwo,rfl,rfl⟩;refine cR ?_)|(refine cN [0] (cV G0 hle) ?_;rintro _ _ ⟨G1,vv,hle1,hV,hVo,rfl,rfl⟩;refine cR ?_))|(refine aJ [0] ?_;try clear hK K)|refine sxW ?_ ?_<;>intro _|refine aK ?_ ?_|(intro K hK _;conv=>whnf)
 all_goals first | (exfalso;omega) | skip
 have hw:=Tr.Row.mono hle1 hw
 have hle:=hle.trans hle1
 clear cV cf c1
 refine aE (α:=Heap × Value × List Tr.L × Nat) (fun (G,u,ps,i)=>G1.le G∧i≤vs.length∧ps.map (·.x)=part i∧∀ p∈ps,Po.SRow G p.v p.x.out) (fun (G,u,ps,i)=>[.k,.k,.k,.k,.k,.k,.k,.k,.k,.k,.k,.set (.sl 3 u ps.length),.set (.int .i64 i),.d,.k,.k,.k,.k,.k,.k,.k,.k,.k,.k,.k,.k,.k,.k,.k,.k,.k,.d,.d,.d,.d,.d,.d,.d,.d,.d,.d,.d,.d,.d,.d,.d,.d,.d,.d,.d,.d,.d,.d,.d,.d,.d,.d,.k,.k,.k])
  (fun (G,u,ps,i)=>[.set (hpB G),.k,.k,.set ⟨addrOf u,Tr.psC ps,.row u 101 6 ps.length⟩]) (fun (G,u,ps,i)=>vs.length - i) (G1,.slice none 0 0,[],0) ⟨G1.le_refl,Nat.zero_le _,hp0.symm,fun p hp=>by simp at hp⟩ ?_ ?_ ?_
 ·exact aD
 ·exact (Qw.nilRow _ 101 6).trans (Qw.congr rfl)
 (intro ⟨G,u9,ps,i⟩ ⟨hle2,hi,hmap,hall⟩;intro K hK;(conv=>whnf);refine hK _ _ ?_;clear hK K)
 dsimp only
 have hpsl:ps.length=(part i).length:=by rw [← hmap,List.length_map]
 have hpb:=hpl i hi
 have hwG:=Tr.Row.mono hle2 hw
 by_cases hlt:i<vs.length
 ·have hx:vs[i]?=some vs[i]:=List.getElem?_eq_getElem hlt
  have v0:=hle2.c _ _ (Tr.vget hV hx)
  have hnx:=hpn i hlt
  clear hpn hpl
  generalize vs[i]=v at *
  have cw:=hcw v
  have ci:=fun G' (h:G.le G')=>(ih G' (Tr.withK f v s) ((hle.trans hle2).trans h)).mono (K':=fun r m=>Tr.LaysR G' (Tr.cases sw (.mk yk (.mk ypk ypf ypv ypl) yf yv yl) rest (Tr.withK f v s)) r m) fun r m h=>Tr.Lays.reads h
  have ca:=fun G' v' (h1:Tr.Row G' v' (Tr.cases sw (.mk yk (.mk ypk ypf ypv ypl) yf yv yl) rest (Tr.withK f v s))) (h2:G.le G')=>ca G' v' w _ h1 (Tr.Row.mono h2 hwG)
  have hll:=hcl (Tr.withK f v s)
  clear ih hcl
  generalize hs2:Tr.withK f v s=s2 at *
  generalize Tr.cases sw (.mk yk (.mk ypk ypf ypv ypl) yf yv yl) rest s2=l at *
  have ci:=ci G G.le_refl
  by_cases hal:Tr.alike f l other=true
  ·rw [hal] at ca
   rw [Tr.some_,if_pos hal,List.append_nil] at hnx
   repeat' first|(intro K hK;(with_reducible refine gC ?_);first|refine cP cw ?_|(refine cN [0] ci ?_;rintro _ _ ⟨G2,v2,qs,hle3,hv2,hv2o,hq1,hq2,hq3,hq4,rfl,rfl⟩;refine cR ?_)|refine cS [0] (ca G2 v2 hv2 hle3) ?_)|(refine sxO ?_;try clear hK K)|refine sxW ?_ ?_<;>intro _|refine sxV ?_ ?_|(intro K hK _;conv=>whnf)
   all_goals
    refine aC (G2,u9,ps,i+1) ⟨hle2.trans hle3,hlt,hmap.trans hnx.symm,fun p hp=>Tr.srow_mono hle3 (hall p hp)⟩ (by show vs.length - (i+1)<vs.length - i;omega) ?_ (Qw.eq rfl)
    exact aD
  ·have hal:Tr.alike f l other=false:=by simpa using hal
   rw [hal] at ca
   rw [Tr.some_,hal,if_neg (by decide)] at hnx
   have hpc:=Tr.psC_len ps
   have hapd:=fun qs=>Tr.psC_append ps qs
   generalize hpsc:Tr.psC ps=pc at *
   repeat' first|((try intro K hK);(with_reducible refine gC ?_);first|refine cP cw ?_|(refine cN [0] ci ?_;rintro _ _ ⟨G2,v2,qs,hle3,hv2,hv2o,hq1,hq2,hq3,hq4,rfl,rfl⟩;refine cR ?_)|refine cS [0] (ca G2 v2 hv2 hle3) ?_)|((try intro K hK);(refine NRd.of (Tr.psC qs) hq3 hq4 ?_;conv=>whnf))|((try intro K hK);(with_reducible refine NH.mk ?s ?_);(case s=>(and_intros<;>first|with_reducible rfl|omega|(first | exact Tr.ones_psC _ | rfl | assumption)));conv=>whnf)|(refine sxO ?_;try clear hK K)|refine sxW ?_ ?_<;>intro _|refine sxV ?_ ?_|(intro K hK _;conv=>whnf)|(intro _;conv=>whnf)
   all_goals
    rename_i v9
    have hql:qs.length=l.length:=by rw [← hq1,List.length_map]
    refine aC (G2,v9,ps++qs,i+1) ⟨hle2.trans hle3,hlt,by rw [List.map_append,hmap,hq1];exact hnx.symm,fun p hp=>?_⟩ (by show vs.length - (i+1)<vs.length - i;omega) ?_ (Qw.pre 4 ?_)
    ·rcases List.mem_append.1 hp with hp | hp
     ·exact Tr.srow_mono hle3 (hall p hp)
     ·exact hq2 p hp
    ·simp only [List.length_append,hql]
     exact aD
    ·simp only [autoM,List.length_append,hql,hapd]
     rfl
 ·obtain rfl:i=vs.length:=by omega
  obtain ⟨qs,hq1,hq2,hq3,hq4⟩:=hwG.reads
  have hql:qs.length=other.length:=by rw [← hq1,List.length_map]
  have hpc:=Tr.psC_len ps
  have hapd:=Tr.psC_append ps qs
  generalize hpsc:Tr.psC ps=pc at *
  clear ih ca hcl
  repeat' first|((try intro K hK);(refine NRd.of (Tr.psC qs) hq3 hq4 ?_;conv=>whnf))|((try intro K hK);(with_reducible refine NH.mk ?s ?_);(case s=>(and_intros<;>first|with_reducible rfl|omega|(first | exact Tr.ones_psC _ | rfl | assumption)));conv=>whnf)|(refine sxZ ?_;try clear hK K)|refine sxW ?_ ?_<;>intro _|(intro K hK _;conv=>whnf)|(intro _;conv=>whnf)
  all_goals
   rename_i v9
   refine ⟨G,v9,ps++qs,hle.trans hle2,by rw [List.map_append,hmap,hq1],fun p hp=>?_,rfl,?_⟩
   ·rcases List.mem_append.1 hp with hp | hp
    ·exact hall p hp
    ·exact hq2 p hp
   ·rw [hapd,List.length_append,hql]
    exact Qw.pick [0,3] (by decide) rfl
theorem kN (y:Po.T) (sw:Int) (pu u:Value) (hs:Po.tot y≤4611686018427387904) (hf:Po.fits y=true) (hwd:Po.wide y<1000) (hl:∀ s,(Po.runs sw y s).length≤1000):∀ (fs:List Int) (k:Nat),k≤5→Tr.order.drop k=fs→∀ (F:Heap) (s:Po.S),Tr.cnt y fs≤1000000→Po.At F y pu u →
  Qz Tryz.prog 77 [.agg (Po.cs y pu u),.int .i64 sw,.int .i64 k,.agg [.int .i64 s.port,.int .i64 s.p0,.int .i64 s.p1,.int .i64 s.p2,.int .i64 s.p3,.raw (.slice none 0 0)]] [hpB F] fun r m=>Tr.Lays F (Tr.cases sw y fs s) r m
 | [],k,hk,hd,F,s,_,hy=>by
  have h5:k=5:=by
   have:=congrArg List.length hd
   simp [Tr.order] at this
   omega
  subst h5
  rw [Tr.cases]
  exact oy F y sw pu u s hs hf hwd hl hy
 | f::rest,k,hk,hd,F,s,hc,hy=>by
  have h5:k<5:=by
   have:=congrArg List.length hd
   simp [Tr.order] at this
   omega
  have hfk:f=Tr.fK k∧Tr.order.drop (k+1)=rest:=by
   have:k=0∨k=1∨k=2∨k=3∨k=4:=by omega
   rcases this with rfl | rfl | rfl | rfl | rfl<;>(injection hd with h1 h2;exact ⟨h1.symm,h2⟩)
  obtain ⟨rfl,hr⟩:=hfk
  refine ox F y sw pu u s k (by omega) rest hs hf hc hl hy fun G s' hG=>?_
  have c:=kN y sw pu u hs hf hwd hl rest (k+1) (by omega) hr G s' (by rw [Tr.cnt,Nat.succ_mul] at hc;omega) (Po.At.mono hG hy)
  exact c
end Go.Proofs.YtmehinfgdcmmjaaGreatDoor
