/- A part of the proof. -/
import Derived.Test.YtmehinfgdcmmjaaGreatDoorTJ16
import Derived.Test.YtmehinfgdcmmjaaGreatDoorTCk6
import Derived.Test.YtmehinfgdcmmjaaGreatDoorTJ13
import Derived.Test.YtmehinfgdcmmjaaGreatDoorTJ5
namespace Go.Proofs.YtmehinfgdcmmjaaGreatDoor
open Go.Sx
set_option maxRecDepth 20000
set_option linter.unusedSimpArgs false
set_option linter.unusedVariables false
set_option maxHeartbeats 4000000
namespace Tr
structure Mk (F:Heap) (a:Addr) (y:Po.T) (sw:Int) (pu u:Value):Prop where
 p:Po.At F y pu u
 c:CellsF F a 0 (denL (Po.cs y pu u++[.int .i64 sw]))
 v:∀ f:Int,ok f→∃ A cap,Srt.Row F (.slice A (Po.values f y).length cap) (Po.values f y)∧F.c (a.add (9+f.toNat)) (.slice A (Po.values f y).length cap)
theorem Mk.mono {F G:Heap} (h:F.le G) {a:Addr} {y:Po.T} {sw:Int} {pu u:Value} (hm:Mk F a y sw pu u):Mk G a y sw pu u :=
 ⟨Po.At.mono h hm.p,hm.c.mono h,fun f hf=>by
  obtain ⟨A,cap,h1,h2⟩:=hm.v f hf
  exact ⟨A,cap,aI.mono h (fun _ _ h=>h) h1,h.c _ _ h2⟩⟩
def part (sw:Int) (y:Po.T) (f:Int) (rest:List Int) (s:Po.S) (i:Nat):List C:=((Po.values f y).take i).flatMap fun v=>some_ f (cases sw y rest s) (cases sw y rest (withK f v s))
theorem part_next (sw:Int) (y:Po.T) (f:Int) (rest:List Int) (s:Po.S) {i:Nat} (h:i<(Po.values f y).length):part sw y f rest s (i+1)=part sw y f rest s i++some_ f (cases sw y rest s) (cases sw y rest (withK f (Po.values f y)[i] s)):=by
 unfold part
 rw [List.take_add_one,List.getElem?_eq_getElem h,List.flatMap_append]
 simp
theorem part_len (sw:Int) (y:Po.T) (f:Int) (rest:List Int) (s:Po.S) (i:Nat) (hi:i≤(Po.values f y).length):(part sw y f rest s i).length≤(Po.values f y).length*cnt y rest:=by
 have h1:=flat_len (fun v=>some_ f (cases sw y rest s) (cases sw y rest (withK f v s))) (cnt y rest) ((Po.values f y).take i) fun v _=>Nat.le_trans (some_len _ _ _) (cases_len sw y rest _)
 have h2:((Po.values f y).take i).length*cnt y rest≤(Po.values f y).length*cnt y rest:=Nat.mul_le_mul_right _ (List.length_take_le' ..)
 unfold part
 omega
theorem cases_part (sw:Int) (y:Po.T) (f:Int) (rest:List Int) (s:Po.S):cases sw y (f::rest) s=part sw y f rest s (Po.values f y).length++cases sw y rest s:=by rw [cases,part,List.take_length]
end Tr
theorem Tr.vget {F:Heap} {v:Value} {l:List Int} (h:Srt.Row F v l) {i:Nat} {x:Int} (hx:l[i]?=some x):F.c ((addrOf v).add i) (.int .i64 x):=by
 obtain ⟨us,rfl,_,h2⟩:=h.at_ i x hx
 rw [Nat.mul_one] at h2
 exact h2.1
abbrev Tr.LaysR (F:Heap) (l:List Tr.C) (r:AV) (m:List Blk):Prop:=∃ F' v,∃ qs:List Tr.L,F.le F'∧Tr.Row F' v l∧SlOk v l.length∧qs.map (·.x)=l∧(∀ p∈qs,Po.SRow F' p.v p.x.out)∧(Tr.psC qs).length=l.length*6∧CellsF F' (addrOf v) 0 (denL (Tr.psC qs))∧r = .hs v l.length∧m=[hpB F']
theorem Tr.Lays.reads {F:Heap} {l:List Tr.C} {r:AV} {m:List Blk} (h:Tr.Lays F l r m):Tr.LaysR F l r m:=by
 obtain ⟨F',v,h1,h2,h3,h4⟩:=h
 obtain ⟨qs,q1,q2,q3,q4⟩:=h2.reads
 exact ⟨F',v,qs,h1,h2,h2.ok,q1,q2,q3,q4,h3,h4⟩
theorem nh (F:Heap) (a:Addr) (y:Po.T) (sw:Int) (pu u:Value) (s:Po.S) (fv:Value) (hs:Po.tot y≤4611686018427387904) (hf:Po.fits y=true) (hl:∀ s,(Po.runs sw y s).length≤1000) (hok:SlOk fv 0) (hm:Tr.Mk F a y sw pu u) :
  Qz Tryz.prog 58 [.hp a 0,.hs fv 0,.agg [.int .i64 s.port,.int .i64 s.p0,.int .i64 s.p1,.int .i64 s.p2,.int .i64 s.p3,.raw (.slice none 0 0)]] [hpB F] fun r m=>Tr.Lays F [⟨s,Tr.outs sw y s⟩] r m:=by
 refine Tr.rows_know (t:=80) ?_
 have cl:=og F sw y pu u a s hs hf (hl s) hm.p hm.c
 generalize Tr.outs sw y s=O at *
 clear hm hl hf hs
 obtain ⟨s0,s1,s2,s3,s4⟩:=s
 simp only [Tr.Lay1,Tr.cs] at *
 refine aB Tryz.func58 rfl (by decide) ?_
 repeat' first|(intro K hK;(with_reducible refine gC ?_);(refine cN [0] cl ?_;rintro _ _ ⟨G,w,hle,hw,rfl,rfl⟩;refine cR ?_))|(refine sxZ ?_;try clear hK K)|refine sxW ?_ ?_<;>intro _|(intro K hK _;conv=>whnf)
 all_goals
  rename_i v9
  exact ⟨G,.slice (some ⟨v9,0,none⟩) 1 1,[⟨⟨⟨s0,s1,s2,s3,s4⟩,O⟩,w⟩],hle,rfl,fun p hp=>by rw [List.mem_singleton.1 hp];exact hw,rfl,Qw.pick [0,2] (by decide) rfl⟩
theorem ng (F:Heap) (a:Addr) (y:Po.T) (sw:Int) (pu u:Value) (s:Po.S) (f:Int) (rest:List Int) (fv:Value) (hfo:Tr.ok f) (hc:Tr.cnt y (f::rest)≤1000000) (hl:∀ s,(Po.runs sw y s).length≤1000) (hfv:Po.IRow F fv (f::rest)) (hm:Tr.Mk F a y sw pu u)
  (ih:∀ (G:Heap) (s:Po.S) (gv:Value),F.le G→Po.IRow G gv rest→Qz Tryz.prog 58 [.hp a 0,.hs gv rest.length,.agg [.int .i64 s.port,.int .i64 s.p0,.int .i64 s.p1,.int .i64 s.p2,.int .i64 s.p3,.raw (.slice none 0 0)]] [hpB G] fun r m=>Tr.Lays G (Tr.cases sw y rest s) r m) :
  Qz Tryz.prog 58 [.hp a 0,.hs fv (f::rest).length,.agg [.int .i64 s.port,.int .i64 s.p0,.int .i64 s.p1,.int .i64 s.p2,.int .i64 s.p3,.raw (.slice none 0 0)]] [hpB F] fun r m=>Tr.Lays F (Tr.cases sw y (f::rest) s) r m:=by
 refine Tr.rows_know (t:=80) ?_
 have hcut:Po.IRow F (cutSl fv 1 1 (rest.length+1)) rest:=by
  have h:=hfv.cut (lo:=1) (hi:=rest.length+1) (by omega) (by simp)
  have e:((f::rest).drop 1).take (rest.length+1 - 1)=rest:=by simp
  rw [e] at h
  exact h
 have hcr:Tr.cnt y rest≤1000000:=by
  rw [Tr.cnt,Nat.succ_mul] at hc
  omega
 have hcl:=fun b=>Tr.cases_len sw y rest b
 have c0:=hfv.at1 (i:=0) rfl
 have hok:SlOk fv (rest.length+1):=hfv.ok
 rw [show (f::rest).length=rest.length+1 from rfl]
 obtain ⟨A,cap,hV,cV⟩:=hm.v f hfo
 have hVo:=hV.ok
 have ca:=fun G v w b (hv:Tr.Row G v (Tr.cases sw y rest b)) (hw:Tr.Row G w (Tr.cases sw y rest s))=>nl G f hfo v w _ _ hv hw (by have:=hcl b;omega) (by have:=hcl s;omega) (Tr.cases_out_len sw y 1000 hl rest b) (Tr.cases_out_len sw y 1000 hl rest s)
 have c1:=(ih F s _ F.le_refl hcut).mono (K':=fun r m=>∃ G w,F.le G∧Tr.Row G w (Tr.cases sw y rest s)∧SlOk w (Tr.cases sw y rest s).length∧G.c (a.add (9+f.toNat)) (.slice A (Po.values f y).length cap)∧r = .hs w (Tr.cases sw y rest s).length∧m=[hpB G]) fun r m ⟨G,w,h1,h2,h3,h4⟩=>⟨G,w,h1,h2,h2.ok,h1.c _ _ cV,h3,h4⟩
 have hpl:=Tr.part_len sw y f rest s
 have hpn:=fun i h=>Tr.part_next sw y f rest s (i:=i) h
 have hp0:Tr.part sw y f rest s 0=[]:=rfl
 have hend:Tr.cases sw y (f::rest) s=Tr.part sw y f rest s (Po.values f y).length++Tr.cases sw y rest s:=Tr.cases_part sw y f rest s
 have hcm:(Po.values f y).length*Tr.cnt y rest≤1000000:=by
  rw [Tr.cnt,Nat.succ_mul] at hc
  omega
 have hvl:(Po.values f y).length≤1000000:=by
  have h1:=Nat.mul_le_mul_left (Po.values f y).length (Tr.cnt_pos y rest)
  omega
 rw [hend]
 clear hend hm hl hc cV
 generalize Tr.part sw y f rest s=part at *
 generalize hvs:Po.values f y=vs at *
 generalize hot:Tr.cases sw y rest s=other at *
 have hol:other.length≤1000000:=by rw [← hot];have:=hcl s;omega
 clear hfv hvs
 refine aB Tryz.func58 rfl (by decide) ?_
 repeat' first|(intro K hK;(with_reducible refine gC ?_);(refine cN [0] c1 ?_;rintro _ _ ⟨G1,w,hle,hw,hwo,hcv,rfl,rfl⟩;refine cR ?_))|(refine aJ [] ?_;try clear hK K)|refine sxW ?_ ?_<;>intro _|refine aK ?_ ?_|(intro K hK _;conv=>whnf)
 refine aE (α:=Heap × Value × List Tr.L × Nat) (fun (G,u,ps,i)=>G1.le G∧i≤vs.length∧ps.map (·.x)=part i∧∀ p∈ps,Po.SRow G p.v p.x.out) (fun (G,u,ps,i)=>[.k,.k,.k,.k,.k,.k,.k,.k,.k,.k,.set (.sl 2 u ps.length),.k,.d,.d,.k,.k,.k,.k,.k,.k,.k,.k,.k,.k,.k,.k,.k,.k,.k,.k,.k,.k,.k,.k,.k,.k,.k,.set (.int .i64 i),.d,.d,.d,.d,.d,.d,.d,.d,.d,.d,.d,.d,.d,.d,.d,.d,.d,.d,.d,.k,.k,.k])
  (fun (G,u,ps,i)=>[.set (hpB G),.k,.set ⟨addrOf u,Tr.psC ps,.row u 80 6 ps.length⟩]) (fun (G,u,ps,i)=>vs.length - i) (G1,.slice none 0 0,[],0) ⟨G1.le_refl,Nat.zero_le _,hp0.symm,fun p hp=>by simp at hp⟩ ?_ ?_ ?_
 ·exact aD
 ·exact (Qw.nilRow _ 80 6).trans (Qw.congr rfl)
 (intro ⟨G,u,ps,i⟩ ⟨hle2,hi,hmap,hall⟩;intro K hK;(conv=>whnf);refine hK _ _ ?_;clear hK K)
 dsimp only
 have hpsl:ps.length=(part i).length:=by rw [← hmap,List.length_map]
 have hpb:=hpl i hi
 have hwG:=Tr.Row.mono hle2 hw
 by_cases hlt:i<vs.length
 ·have hx:vs[i]?=some vs[i]:=List.getElem?_eq_getElem hlt
  have v0:=(hle.trans hle2).c _ _ (Tr.vget hV hx)
  have hnx:=hpn i hlt
  clear hpn hpl c1
  generalize vs[i]=v at *
  have cw:=nu s f v hfo
  have ci:=(ih G (Tr.withK f v s) _ (hle.trans hle2) (aI.mono (hle.trans hle2) (fun _ _ h=>h) hcut)).mono (K':=fun r m=>Tr.LaysR G (Tr.cases sw y rest (Tr.withK f v s)) r m) fun r m h=>Tr.Lays.reads h
  have ca:=fun G' v' (h1:Tr.Row G' v' (Tr.cases sw y rest (Tr.withK f v s))) (h2:G.le G')=>ca G' v' w _ h1 (Tr.Row.mono h2 hwG)
  have hll:=hcl (Tr.withK f v s)
  clear ih hcl
  generalize hs2:Tr.withK f v s=s2 at *
  generalize Tr.cases sw y rest s2=l at *
  by_cases hal:Tr.alike f l other=true
  ·rw [hal] at ca
   rw [Tr.some_,if_pos hal,List.append_nil] at hnx
   repeat' first|(intro K hK;(with_reducible refine gC ?_);first|refine cP cw ?_|(refine cN [0] ci ?_;rintro _ _ ⟨G2,v2,qs,hle3,hv2,hv2o,hq1,hq2,hq3,hq4,rfl,rfl⟩;refine cR ?_)|refine cS [0] (ca G2 v2 hv2 hle3) ?_)|(refine sxZ ?_;try clear hK K)|refine sxW ?_ ?_<;>intro _|(intro K hK _;conv=>whnf)
   all_goals
    refine aC (G2,u,ps,i+1) ⟨hle2.trans hle3,hlt,hmap.trans hnx.symm,fun p hp=>Tr.srow_mono hle3 (hall p hp)⟩ (by show vs.length - (i+1)<vs.length - i;omega) ?_ (Qw.eq rfl)
    exact aD
  ·have hal:Tr.alike f l other=false:=by simpa using hal
   rw [hal] at ca
   rw [Tr.some_,hal,if_neg (by decide)] at hnx
   have hpc:=Tr.psC_len ps
   have hapd:=fun qs=>Tr.psC_append ps qs
   generalize hpsc:Tr.psC ps=pc at *
   repeat' first|((try intro K hK);(with_reducible refine gC ?_);first|refine cP cw ?_|(refine cN [0] ci ?_;rintro _ _ ⟨G2,v2,qs,hle3,hv2,hv2o,hq1,hq2,hq3,hq4,rfl,rfl⟩;refine cR ?_)|refine cS [0] (ca G2 v2 hv2 hle3) ?_)|((try intro K hK);(refine NRd.of (Tr.psC qs) hq3 hq4 ?_;conv=>whnf))|((try intro K hK);(with_reducible refine NH.mk ?s ?_);(case s=>(and_intros<;>first|with_reducible rfl|omega|(first | exact Tr.ones_psC _ | rfl | assumption)));conv=>whnf)|(refine sxZ ?_;try clear hK K)|refine sxW ?_ ?_<;>intro _|(intro K hK _;conv=>whnf)|(intro _;conv=>whnf)
   all_goals
    rename_i v9
    have hql:qs.length=l.length:=by rw [← hq1,List.length_map]
    refine aC (G2,v9,ps++qs,i+1) ⟨hle2.trans hle3,hlt,by rw [List.map_append,hmap,hq1];exact hnx.symm,fun p hp=>?_⟩ (by show vs.length - (i+1)<vs.length - i;omega) ?_ (Qw.pre 3 ?_)
    ·rcases List.mem_append.1 hp with hp | hp
     ·exact Tr.srow_mono hle3 (hall p hp)
     ·exact hq2 p hp
    ·simp only [List.length_append,hql]
     exact aD
    ·simp only [autoM,List.length_append,hql,hapd]
     rfl
 ·obtain rfl:i=vs.length:=by omega
  obtain ⟨qs,hq1,hq2,hq3,hq4⟩:=hwG.reads
  have hql:qs.length=other.length:=by rw [← hq1,List.length_map]
  have hpc:=Tr.psC_len ps
  have hapd:=Tr.psC_append ps qs
  generalize hpsc:Tr.psC ps=pc at *
  clear ih ca c1 hcl
  repeat' first|((try intro K hK);(refine NRd.of (Tr.psC qs) hq3 hq4 ?_;conv=>whnf))|((try intro K hK);(with_reducible refine NH.mk ?s ?_);(case s=>(and_intros<;>first|with_reducible rfl|omega|(first | exact Tr.ones_psC _ | rfl | assumption)));conv=>whnf)|(refine sxZ ?_;try clear hK K)|refine sxW ?_ ?_<;>intro _|(intro K hK _;conv=>whnf)|(intro _;conv=>whnf)
  all_goals
   rename_i v9
   refine ⟨G,v9,ps++qs,hle.trans hle2,by rw [List.map_append,hmap,hq1],fun p hp=>?_,rfl,?_⟩
   ·rcases List.mem_append.1 hp with hp | hp
    ·exact hall p hp
    ·exact hq2 p hp
   ·rw [hapd,List.length_append,hql]
    exact Qw.pick [0,2] (by decide) rfl
theorem iX (y:Po.T) (sw:Int) (a:Addr) (pu u:Value) (hs:Po.tot y≤4611686018427387904) (hf:Po.fits y=true) (hl:∀ s,(Po.runs sw y s).length≤1000):∀ (fs:List Int) (F:Heap) (s:Po.S) (fv:Value),(∀ f∈fs,Tr.ok f)→Tr.cnt y fs≤1000000→Po.IRow F fv fs→Tr.Mk F a y sw pu u →
  Qz Tryz.prog 58 [.hp a 0,.hs fv fs.length,.agg [.int .i64 s.port,.int .i64 s.p0,.int .i64 s.p1,.int .i64 s.p2,.int .i64 s.p3,.raw (.slice none 0 0)]] [hpB F] fun r m=>Tr.Lays F (Tr.cases sw y fs s) r m
 | [],F,s,fv,_,_,hfv,hm=>by
  rw [Tr.cases]
  exact nh F a y sw pu u s fv hs hf hl hfv.ok hm
 | f::rest,F,s,fv,hok,hc,hfv,hm=>ng F a y sw pu u s f rest fv (hok f (by simp)) hc hl hfv hm fun G s gv hG hgv =>
  iX y sw a pu u hs hf hl rest G s gv (fun g hg=>hok g (by simp [hg])) (by rw [Tr.cnt,Nat.succ_mul] at hc;omega) hgv (hm.mono hG)
namespace Tr
theorem cells_pre {F:Heap} {a:Addr}:∀ (l l2:List Value) (o:Nat),CellsF F a o (l++l2)→CellsF F a o l
 | [],_,_,_=>trivial
 | _::l,l2,o,h=>⟨h.1,cells_pre l l2 (o+1) h.2⟩
theorem Mk.of {G:Heap} {a:Addr} {y:Po.T} {sw:Int} {pu u v0 v1 v2 v3 v4:Value} (hp:Po.At G y pu u) (h0:Srt.Row G v0 (Po.values 0 y)) (h1:Srt.Row G v1 (Po.values 1 y)) (h2:Srt.Row G v2 (Po.values 2 y)) (h3:Srt.Row G v3 (Po.values 3 y)) (h4:Srt.Row G v4 (Po.values 4 y))
  (hc:CellsF G a 0 (denL (Po.cs y pu u++[.int .i64 sw]++[.hs v0 (Po.values 0 y).length,.hs v1 (Po.values 1 y).length,.hs v2 (Po.values 2 y).length,.hs v3 (Po.values 3 y).length,.hs v4 (Po.values 4 y).length]))):Mk G a y sw pu u:=by
 refine ⟨hp,?_,fun f hf=>?_⟩
 ·rw [aS] at hc
  exact cells_pre _ _ _ hc
 ·obtain ⟨_,_,_,_,_,_,_,_,_,d0,d1,d2,d3,d4,_⟩:=hc
  have key:∀ (v:Value) (l:List Int) (k:Nat),Srt.Row G v l→G.c (a.add k) (AV.hs v l.length).den→∃ A cap,Srt.Row G (.slice A l.length cap) l∧G.c (a.add k) (.slice A l.length cap):=fun v l k hv hk=>by
   obtain ⟨A,cap,rfl,_,_⟩:=hv.ok
   exact ⟨A,cap,hv,hk⟩
  rcases ok5 hf with rfl | rfl | rfl | rfl | rfl
  ·exact key v0 _ 9 h0 d0
  ·exact key v1 _ 10 h1 d1
  ·exact key v2 _ 11 h2 d2
  ·exact key v3 _ 12 h3 d3
  ·exact key v4 _ 13 h4 d4
end Tr
theorem nA:Qz Tryz.prog 59 [] [] fun r m=>∃ v,r = .sl 0 v 5∧m=[⟨addrOf v,[.int .i64 4,.int .i64 0,.int .i64 1,.int .i64 2,.int .i64 3],.row v 3 1 5⟩]:=by
 refine aB Tryz.func59 rfl (by decide) ?_
 repeat' first|(refine sxZ ?_;try clear hK K)|refine sxW ?_ ?_<;>intro _|(intro K hK _;conv=>whnf)
 all_goals exact ⟨_,rfl,rfl⟩
theorem nf (G:Heap) (y:Po.T) (sw:Int) (pu u:Value) (hs:Po.tot y≤4611686018427387904) (hf:Po.fits y=true) (hl:∀ s,(Po.runs sw y s).length≤1000) (hc:Tr.cnt y Tr.order≤1000000) (v0 v1 v2 v3 v4:Value) (hp:Po.At G y pu u) (h0:Srt.Row G v0 (Po.values 0 y)) (h1:Srt.Row G v1 (Po.values 1 y)) (h2:Srt.Row G v2 (Po.values 2 y)) (h3:Srt.Row G v3 (Po.values 3 y)) (h4:Srt.Row G v4 (Po.values 4 y)) (b:Nat) (w:Value) :
  Qz Tryz.prog 58 [.ptr 1 ⟨b,0,none⟩ 0,.sl 2 w 5,.agg [.int .i64 (-1),.int .i64 (-1),.int .i64 (-1),.int .i64 (-1),.int .i64 (-1),.raw (.slice none 0 0)]]
   [hpB G,⟨⟨b,0,none⟩,Po.cs y pu u++[.int .i64 sw]++[.hs v0 (Po.values 0 y).length,.hs v1 (Po.values 1 y).length,.hs v2 (Po.values 2 y).length,.hs v3 (Po.values 3 y).length,.hs v4 (Po.values 4 y).length],.var 119⟩,⟨addrOf w,[.int .i64 4,.int .i64 0,.int .i64 1,.int .i64 2,.int .i64 3],.row w 3 1 5⟩]
   fun r m=>∃ F' v,G.le F'∧Tr.Row F' v (Tr.cases sw y Tr.order Tr.start)∧r = .hs v (Tr.cases sw y Tr.order Tr.start).length∧m=[hpB F',hpB noHeap,hpB noHeap]:=by
 have hord:∀ f∈Tr.order,Tr.ok f:=fun f h=>Tr.mem_order.1 h
 rw [aN]
 refine ⟨Go.Sx.enters_of Tryz.func58 rfl (by decide),fun W hW=>(aN.1 ?_).2 W hW⟩
 have hok:=(hW.row (List.mem_cons_of_mem _ (List.mem_cons_of_mem _ (List.mem_cons_self ..)))).1
 have hrow:=aM (F:=addF G ⟨b,0,none⟩ (denL (Po.cs y pu u++[.int .i64 sw]++[.hs v0 (Po.values 0 y).length,.hs v1 (Po.values 1 y).length,.hs v2 (Po.values 2 y).length,.hs v3 (Po.values 3 y).length,.hs v4 (Po.values 4 y).length]))) (sz:=1) (enc:=fun x:Int=>[.int .i64 x]) (l:=Tr.order) (vs:=denL [.int .i64 4,.int .i64 0,.int .i64 1,.int .i64 2,.int .i64 3]) hok rfl (fun x _=>rfl)
 have hm:Tr.Mk (addF G ⟨b,0,none⟩ (denL (Po.cs y pu u++[.int .i64 sw]++[.hs v0 (Po.values 0 y).length,.hs v1 (Po.values 1 y).length,.hs v2 (Po.values 2 y).length,.hs v3 (Po.values 3 y).length,.hs v4 (Po.values 4 y).length]))) ⟨b,0,none⟩ y sw pu u :=
  Tr.Mk.of (hp.mono addF.old) (aI.mono addF.old (fun _ _ h=>h) h0) (aI.mono addF.old (fun _ _ h=>h) h1) (aI.mono addF.old (fun _ _ h=>h) h2) (aI.mono addF.old (fun _ _ h=>h) h3) (aI.mono addF.old (fun _ _ h=>h) h4) addF.new
 have c:=iX y sw ⟨b,0,none⟩ pu u hs hf hl Tr.order _ Tr.start w hord hc hrow (hm.mono addF.old)
 refine (Qz.pre (args:=[.ptr 1 ⟨b,0,none⟩ 0,.sl 2 w 5,.agg [.int .i64 (-1),.int .i64 (-1),.int .i64 (-1),.int .i64 (-1),.int .i64 (-1),.raw (.slice none 0 0)]]) (mL:=[hpB _]) c rfl ?_).fits fun r m' hr=>?_
 ·exact (Qw.freezeVar (m:=[_])).trans (Qw.freeze (m:=[]))
 ·obtain ⟨F',v,h1,h2,rfl,rfl⟩:=hr
  exact ⟨_,_,rfl,((Qw.noHeap _).trans (Qw.noHeap _)).trans (Qw.pick [2,0,1] (by decide) rfl),F',v,(addF.old.trans addF.old).trans h1,h2,rfl,rfl⟩
def Tr.ans (sw:Int) (x:Po.T):List Tr.C × Int:=if Po.right x=true then (Tr.all sw x,0) else ([],17)
theorem nq (F:Heap) (x:Po.T) (pu u:Value) (sw:Int) (hs:Po.tot x≤1000000000) (hx:Po.At F x pu u) (hce:Po.right x=true→Po.cells (Po.spec sw x)≤4096) (hc:Po.right x=true→Tr.cnt (Po.spec sw x) Tr.order≤1000000) :
  Qz Tryz.prog 26 [.agg (Po.cs x pu u),.int .i64 sw] [hpB F] fun r m=>∃ F' v,F.le F'∧Tr.Row F' v (Tr.ans sw x).1∧r = .tup [.hs v (Tr.ans sw x).1.length,.int .i64 (Tr.ans sw x).2]∧m=[hpB F']:=by
 have hok:=hx.l.ok
 have hpok:=hx.p.ok
 have cR:=gz F x pu u (by omega) hx
 refine Qz.fits (K:=fun r m=>∃ F' v,F.le F'∧Tr.Row F' v (Tr.ans sw x).1∧r.den=(AV.tup [.hs v (Tr.ans sw x).1.length,.int .i64 (Tr.ans sw x).2]).den∧Qw m [hpB F']) ?_ fun r m' ⟨F',v,h1,h2,h3,h4⟩=>⟨_,_,h3.symm,h4,F',v,h1,h2,rfl,rfl⟩
 unfold Tr.ans
 by_cases hr:Po.right x=true
 rotate_left
 ·have hr:Po.right x=false:=by simpa using hr
  rw [hr] at cR ⊢
  clear hx hce hc
  obtain ⟨k,⟨pk,pf,pv,pl⟩,a,v,l⟩:=x
  simp only [aY,Po.T.l,Po.T.p,Pd.T.k,Pd.T.f,Pd.T.v,Pd.T.l] at *
  refine aB Tryz.func26 rfl (by decide) ?_
  repeat' first|(intro K hK;(with_reducible refine gC ?_);refine Go.Sx.cS [0] cR ?_)|(refine sxZ ?_;try clear hK K)|refine sxW ?_ ?_<;>intro _|(intro K hK _;conv=>whnf)
  all_goals exact ⟨F,.slice none 0 0,F.le_refl,aI.nil,rfl,Qw.pre 1 rfl⟩
 rw [hr] at cR
 rw [if_pos hr]
 have hf:=Po.right_fits' hr
 have hyf:=Po.spec_fits sw x hf
 have hyt:=Po.spec_tot sw x hf
 have hyr:=Po.spec_right sw x hr
 have hl:∀ s,(Po.runs sw (Po.spec sw x) s).length≤1000:=fun s=>Nat.le_trans (Po.runs_64 sw _ hyr s) (by decide)
 have cA:=pZ _ F x pu u sw (Nat.le_refl _) (by omega) hf hx
 have hce:=hce hr
 have hc:=hc hr
 unfold Tr.all
 clear hx hf hr hyr
 generalize Po.spec sw x=y at *
 have cC:=fun G pu u (h:Po.At G y pu u)=>iW G y pu u (by omega) h
 have cV:=fun G pu u (h:Po.At G y pu u) f (hf : -9223372036854775808≤f∧f≤9223372036854775807)=>dR G y pu u f hf (by omega) h
 have hmo:=fun G G' pu u (h:Heap.le G G') (h2:Po.At G y pu u)=>Po.At.mono h h2
 have hlen:=fun f=>Po.values_len f y
 have kC:=fun G pu u v0 v1 v2 v3 v4 hp h0 h1 h2 h3 h4 b w=>nf G y sw pu u (by omega) hyf hl hc v0 v1 v2 v3 v4 hp h0 h1 h2 h3 h4 b w
 generalize Tr.cases sw y Tr.order Tr.start=C at *
 clear hl hc hyf
 generalize hv0:Po.values 0 y=V0 at *
 generalize hv1:Po.values 1 y=V1 at *
 generalize hv2:Po.values 2 y=V2 at *
 generalize hv3:Po.values 3 y=V3 at *
 generalize hv4:Po.values 4 y=V4 at *
 have cV0:=fun G pu u h=>(hv0 ▸ cV G pu u h 0 (by omega):Qz Tryz.prog 57 [.agg (Po.cs y pu u),.int .i64 0] [hpB G] fun r m=>Srt.Lays G V0 r m)
 have cV1:=fun G pu u h=>(hv1 ▸ cV G pu u h 1 (by omega):Qz Tryz.prog 57 [.agg (Po.cs y pu u),.int .i64 1] [hpB G] fun r m=>Srt.Lays G V1 r m)
 have cV2:=fun G pu u h=>(hv2 ▸ cV G pu u h 2 (by omega):Qz Tryz.prog 57 [.agg (Po.cs y pu u),.int .i64 2] [hpB G] fun r m=>Srt.Lays G V2 r m)
 have cV3:=fun G pu u h=>(hv3 ▸ cV G pu u h 3 (by omega):Qz Tryz.prog 57 [.agg (Po.cs y pu u),.int .i64 3] [hpB G] fun r m=>Srt.Lays G V3 r m)
 have cV4:=fun G pu u h=>(hv4 ▸ cV G pu u h 4 (by omega):Qz Tryz.prog 57 [.agg (Po.cs y pu u),.int .i64 4] [hpB G] fun r m=>Srt.Lays G V4 r m)
 generalize Po.cells y=nc at *
 have hro:=fun (G G':Heap) (v:Value) (l:List Int) (h:G.le G') (h2:Srt.Row G v l)=>(aI.mono h (fun _ _ h=>h) h2:Srt.Row G' v l)
 have hAo:=fun G pu u (h:Po.At G y pu u)=>h.l.ok
 have hAp:=fun G pu u (h:Po.At G y pu u)=>h.p.ok
 clear cV hlen hv0 hv1 hv2 hv3 hv4
 obtain ⟨k,⟨pk,pf,pv,pl⟩,a,v,l⟩:=x
 obtain ⟨yk,⟨ypk,ypf,ypv,ypl⟩,yf,yv,yl⟩:=y
 simp only [Po.cs,Po.Lays,Srt.Lays,Po.T.k,Po.T.l,Po.T.p,Po.T.f,Po.T.v,Pd.T.k,Pd.T.f,Pd.T.v,Pd.T.l,List.cons_append,List.nil_append] at *
 refine aB Tryz.func26 rfl (by decide) ?_
 repeat' first|((try intro K hK);(with_reducible refine gC ?_);first|refine Go.Sx.cS [0] cR ?_|(refine Go.Sx.cN [0] cA ?_;rintro _ _ ⟨F1,pu1,u1,hle1,hA1,rfl,rfl⟩;refine Go.Sx.cR ?_)|refine Go.Sx.cS [0] (cC F1 pu1 u1 hA1) ?_|(refine Go.Sx.cN [0] (cV0 F1 pu1 u1 hA1) ?_;rintro _ _ ⟨G0,w0,hl0,hw0,rfl,rfl⟩;refine Go.Sx.cR ?_)|(refine Go.Sx.cN [0] (cV1 G0 pu1 u1 (hmo _ _ _ _ hl0 hA1)) ?_;rintro _ _ ⟨G1,w1,hl1,hw1,rfl,rfl⟩;refine Go.Sx.cR ?_)|(refine Go.Sx.cN [0] (cV2 G1 pu1 u1 (hmo _ _ _ _ (hl0.trans hl1) hA1)) ?_;rintro _ _ ⟨G2,w2,hl2,hw2,rfl,rfl⟩;refine Go.Sx.cR ?_)|(refine Go.Sx.cN [0] (cV3 G2 pu1 u1 (hmo _ _ _ _ ((hl0.trans hl1).trans hl2) hA1)) ?_;rintro _ _ ⟨G3,w3,hl3,hw3,rfl,rfl⟩;refine Go.Sx.cR ?_)|(refine Go.Sx.cN [0] (cV4 G3 pu1 u1 (hmo _ _ _ _ (((hl0.trans hl1).trans hl2).trans hl3) hA1)) ?_;rintro _ _ ⟨G4,w4,hl4,hw4,rfl,rfl⟩;refine Go.Sx.cR ?_)|(refine Go.Sx.cN [] nA ?_;rintro _ _ ⟨vo,rfl,rfl⟩;refine ⟨rfl,.sl 3 vo 5,rfl,?_⟩;conv=>whnf)|(refine Go.Sx.cN [0,2,3] (kC G4 pu1 u1 w0 w1 w2 w3 w4 (hmo _ _ _ _ ((((hl0.trans hl1).trans hl2).trans hl3).trans hl4) hA1) (hro _ _ _ _ (((hl1.trans hl2).trans hl3).trans hl4) hw0) (hro _ _ _ _ ((hl2.trans hl3).trans hl4) hw1) (hro _ _ _ _ (hl3.trans hl4) hw2) (hro _ _ _ _ hl4 hw3) hw4 _ _) ?_;rintro _ _ ⟨G5,v5,hl5,hw5,rfl,rfl⟩;refine Go.Sx.cR ?_))|((with_reducible refine gX ?_);with_reducible refine bQ 6 ?_)|(refine aJ [0,2] ?_;try clear hK K)|refine sxW ?_ ?_<;>intro _|refine aK ?_ ?_|(intro K hK _;conv=>whnf)
 all_goals exact ⟨G5,v5,((((hle1.trans hl0).trans hl1).trans hl2).trans hl3).trans (hl4.trans hl5),hw5,rfl,Qw.pre 1 rfl⟩
set_option maxHeartbeats 16000000
namespace Tr
def fK (k:Int):Int:=if k=0 then 4 else k - 1
theorem fK_ok {k:Int} (h:0≤k∧k≤4):ok (fK k):=by unfold fK;split<;>constructor<;>omega
theorem with_iff {f:Int} (hf:ok f) (v w:Int) (s t:Po.S):withK f v s=withK f v t↔withK f w s=withK f w t:=by
 have key:∀ v w:Int,withK f v s=withK f v t→withK f w s=withK f w t:=fun v w h=>S_ext fun g hg=>by
  by_cases e:g=f
  ·subst e;rw [gt_same,gt_same]
  ·rw [gt_other w s hf hg e,gt_other w t hf hg e,← gt_other v s hf hg e,← gt_other v t hf hg e,h]
 exact ⟨key v w,key w v⟩
end Tr
theorem nZ (k:Int) (hk:0≤k∧k≤4):Qz Tryz.prog 119 [.int .i64 k] [] fun r _=>r = .int .i64 (Tr.fK k):=by
 refine aB Tryz.func119 rfl (by decide) ?_
 unfold Tr.fK
 by_cases h:k=0
 ·rw [if_pos h]
  repeat' first|(refine sxZ ?_;try clear hK K)|refine sxW ?_ ?_<;>intro _|(intro K hK _;conv=>whnf)
  all_goals first | (exfalso;omega) | rfl
 ·rw [if_neg h]
  repeat' first|(refine sxZ ?_;try clear hK K)|refine sxW ?_ ?_<;>intro _|(intro K hK _;conv=>whnf)
  all_goals first | (exfalso;omega) | rfl
theorem jf (s:Po.S) (k v:Int) (hk:0≤k∧k≤4):Qz Tryz.prog 120 [.agg [.int .i64 s.port,.int .i64 s.p0,.int .i64 s.p1,.int .i64 s.p2,.int .i64 s.p3,.raw (.slice none 0 0)],.int .i64 k,.int .i64 v] [] fun r _=>r = .agg [.int .i64 (Tr.withK (Tr.fK k) v s).port,.int .i64 (Tr.withK (Tr.fK k) v s).p0,.int .i64 (Tr.withK (Tr.fK k) v s).p1,.int .i64 (Tr.withK (Tr.fK k) v s).p2,.int .i64 (Tr.withK (Tr.fK k) v s).p3,.raw (.slice none 0 0)]:=by
 refine aB Tryz.func120 rfl (by decide) ?_
 obtain ⟨s0,s1,s2,s3,s4⟩:=s
 have:k=0∨k=1∨k=2∨k=3∨k=4:=by omega
 rcases this with rfl | rfl | rfl | rfl | rfl
 all_goals
  simp only [Tr.withK,Tr.fK]
  repeat' first|(refine sxZ ?_;try clear hK K)|refine sxW ?_ ?_<;>intro _|(intro K hK _;conv=>whnf)
  all_goals rfl
theorem fE (s:Po.S) (k v:Int) (w:Value) (n:Nat) (hk:0≤k∧k≤4):Qz Tryz.prog 120 [.agg [.int .i64 s.port,.int .i64 s.p0,.int .i64 s.p1,.int .i64 s.p2,.int .i64 s.p3,.hs w n],.int .i64 k,.int .i64 v] [] fun r _=>r = .agg [.int .i64 (Tr.withK (Tr.fK k) v s).port,.int .i64 (Tr.withK (Tr.fK k) v s).p0,.int .i64 (Tr.withK (Tr.fK k) v s).p1,.int .i64 (Tr.withK (Tr.fK k) v s).p2,.int .i64 (Tr.withK (Tr.fK k) v s).p3,.hs w n]:=by
 refine aB Tryz.func120 rfl (by decide) ?_
 obtain ⟨s0,s1,s2,s3,s4⟩:=s
 have:k=0∨k=1∨k=2∨k=3∨k=4:=by omega
 rcases this with rfl | rfl | rfl | rfl | rfl
 all_goals
  simp only [Tr.withK,Tr.fK]
  repeat' first|(refine sxZ ?_;try clear hK K)|refine sxW ?_ ?_<;>intro _|(intro K hK _;conv=>whnf)
  all_goals rfl
theorem jh (F:Heap) (k:Int) (hk:0≤k∧k≤4) (v w:Value) (a b:List Tr.C) (hv:Tr.Row F v a) (hw:Tr.Row F w b) (ha:a.length≤4611686018427387904) (hb:b.length≤4611686018427387904) (ha2:∀ c∈a,c.out.length≤1000) (hb2:∀ c∈b,c.out.length≤1000) :
  Qz Tryz.prog 121 [.hs v a.length,.hs w b.length,.int .i64 k] [hpB F] fun r m=>r = .bool (Tr.alike (Tr.fK k) a b)∧m=[hpB F]:=by
 refine Qz.fits (K:=fun r m=>r = .bool (Tr.alike (Tr.fK k) a b)∧Qw m [hpB F]) ?_ fun r m' h=>⟨r,_,rfl,h.2,h.1,rfl⟩
 have hok:=hv.ok
 have hok2:=hw.ok
 have hs:=Tr.alike_iff (Tr.fK k) a b
 have hfk:=Tr.fK_ok hk
 refine aB Tryz.func121 rfl (by decide) ?_
 by_cases hl:a.length=b.length
 rotate_left
 ·have hne:Tr.alike (Tr.fK k) a b=false:=by
   cases h:Tr.alike (Tr.fK k) a b with
   | false=>rfl
   | true=>exact (hl (hs.1 h).1).elim
  rw [hne]
  repeat' first|(refine sxZ ?_;try clear hK K)|refine sxW ?_ ?_<;>intro _|(intro K hK _;conv=>whnf)
  all_goals first | (exfalso;omega) | exact ⟨rfl,Qw.pre 1 rfl⟩
 repeat' first|(refine sxZ ?_;try clear hK K)|refine sxW ?_ ?_<;>intro _|(intro K hK _;conv=>whnf)
 all_goals first | (exfalso;omega) | skip
 refine aE (α:=Nat) (fun j=>j≤a.length∧∀ (i:Nat) (x y:Tr.C),i<j→a[i]?=some x→b[i]?=some y→Tr.free (Tr.fK k) x=Tr.free (Tr.fK k) y) (fun j=>[.k,.k,.k,.k,.k,.k,.set (.bool false),.set (.int .i64 j),.d,.d,.k,.k,.k,.k,.k,.d,.d,.d,.d,.d,.d,.d,.d,.d,.d,.d,.d,.d,.d,.d,.d,.d,.d,.d,.d,.d,.d,.d,.d,.d,.d,.d,.d,.d,.d,.d,.d,.d,.d,.d,.d,.d,.d]) (fun _=>[]) (fun j=>a.length - j) 0 ⟨Nat.zero_le _,fun j x y hj=>absurd hj (Nat.not_lt_zero _)⟩ ?_ (Qw.eq rfl) ?_
 ·exact aD
 (intro j ⟨hj,hgone⟩;intro K hK;(conv=>whnf);refine hK _ _ ?_;clear hK K)
 by_cases hlt:j<a.length
 ·have hx:a[j]?=some a[j]:=List.getElem?_eq_getElem hlt
  have hy:b[j]?=some (b[j]'(by omega)):=List.getElem?_eq_getElem (by omega)
  obtain ⟨A,cap,hA,c0,c1,c2,c3,c4,c5⟩:=hv.get hx
  obtain ⟨B,cap',hB,d0,d1,d2,d3,d4,d5⟩:=hw.get hy
  have hal:=ha2 _ (List.mem_of_getElem? hx)
  have hbl:=hb2 _ (List.mem_of_getElem? hy)
  have hoA:=hA.ok
  have hoB:=hB.ok
  have hq:=hs.1
  clear ha2 hb2
  generalize a[j]=x at *
  generalize (b[j]'(by omega))=y at *
  have cS:=oN F (.slice A x.out.length cap) (.slice B y.out.length cap') x.out y.out hA hB (by omega) (by omega)
  have w1:=fE x.s k 0 (.slice A x.out.length cap) x.out.length hk
  have w2:=fE y.s k 0 (.slice B y.out.length cap') y.out.length hk
  have hfr:Tr.free (Tr.fK k) x=Tr.free (Tr.fK k) y↔Tr.withK (Tr.fK k) 0 x.s=Tr.withK (Tr.fK k) 0 y.s∧x.out=y.out:=by
   have e:=Tr.with_iff hfk 0 (-1) x.s y.s
   unfold Tr.free
   simp only [Tr.C.mk.injEq]
   exact and_congr e.symm Iff.rfl
  clear hA hB
  generalize Tr.withK (Tr.fK k) 0 x.s=X at *
  generalize Tr.withK (Tr.fK k) 0 y.s=Y at *
  obtain ⟨⟨x0,x1,x2,x3,x4⟩,xo⟩:=x
  obtain ⟨⟨y0,y1,y2,y3,y4⟩,yo⟩:=y
  obtain ⟨X0,X1,X2,X3,X4⟩:=X
  obtain ⟨Y0,Y1,Y2,Y3,Y4⟩:=Y
  simp only at c0 c1 c2 c3 c4 c5 d0 d1 d2 d3 d4 d5 w1 w2 cS hal hbl hoA hoB hfr
  have hne:∀ (P:Prop),¬ P→(Tr.free (Tr.fK k) (⟨⟨x0,x1,x2,x3,x4⟩,xo⟩:Tr.C)=Tr.free (Tr.fK k) ⟨⟨y0,y1,y2,y3,y4⟩,yo⟩→P)→Tr.alike (Tr.fK k) a b=false:=fun P hP h=>by
   cases h2:Tr.alike (Tr.fK k) a b with
   | false=>rfl
   | true=>exact absurd (h ((hq h2).2 j _ _ hx hy)) hP
  by_cases hXY:(⟨X0,X1,X2,X3,X4⟩:Po.S)=⟨Y0,Y1,Y2,Y3,Y4⟩
  ·injection hXY with e0 e1 e2 e3 e4
   subst e0 e1 e2 e3 e4
   by_cases hqo:xo=yo
   ·rw [decide_eq_true hqo] at cS
    repeat' first|((try intro K hK);(with_reducible refine gC ?_);first|refine Go.Sx.cP w1 ?_|refine Go.Sx.cP w2 ?_|refine Go.Sx.cS [0] cS ?_)|((first|intro A B hA hB|intro K hK|skip);first|((with_reducible refine NIf.yes ?s ?_);(case s=>simp ;done);conv=>whnf)|((with_reducible refine NIf.no ?s ?_);(case s=>simp ;done);conv=>whnf))|(refine aJ [] ?_;(try clear hK K);try clear hA hB A B)|refine sxW ?_ ?_<;>intro _|refine aK ?_ ?_|(intro K hK _;conv=>whnf)
    all_goals
     refine aC (j+1) ⟨hlt,fun i x' y' hi h1 h2=>?_⟩ (by omega) ?_ (Qw.pre 1 rfl)
     ·by_cases e:i=j
      ·subst e
       rw [hx] at h1
       rw [hy] at h2
       injection h1 with h1
       injection h2 with h2
       rw [← h1,← h2];exact hfr.2 ⟨rfl,hqo⟩
      ·exact hgone i x' y' (by omega) h1 h2
     ·exact aD
   ·rw [decide_eq_false hqo] at cS
    rw [hne _ hqo fun h=>(hfr.1 h).2]
    repeat' first|((try intro K hK);(with_reducible refine gC ?_);first|refine Go.Sx.cP w1 ?_|refine Go.Sx.cP w2 ?_|refine Go.Sx.cS [0] cS ?_)|((first|intro A B hA hB|intro K hK|skip);first|((with_reducible refine NIf.yes ?s ?_);(case s=>simp ;done);conv=>whnf)|((with_reducible refine NIf.no ?s ?_);(case s=>simp ;done);conv=>whnf))|(refine aJ [] ?_;(try clear hK K);try clear hA hB A B)|refine sxW ?_ ?_<;>intro _|refine aK ?_ ?_|(intro K hK _;conv=>whnf)
    all_goals exact ⟨rfl,Qw.pre 1 rfl⟩
  ·rw [hne _ hXY fun h=>(hfr.1 h).1]
   by_cases hp:X0=Y0
   ·have hnb:(decide (X1=Y1)&&(decide (X2=Y2)&&(decide (X3=Y3)&&(decide (X4=Y4)&&true))))=false:=by
     refine Bool.eq_false_iff.2 fun h=>hXY ?_
     simp only [Bool.and_eq_true,decide_eq_true_eq,and_true] at h
     obtain ⟨rfl,rfl,rfl,rfl⟩:=h
     rw [hp]
    subst hp
    repeat' first|((try intro K hK);(with_reducible refine gC ?_);first|refine Go.Sx.cP w1 ?_|refine Go.Sx.cP w2 ?_|refine Go.Sx.cS [0] cS ?_)|((first|intro A B hA hB|intro K hK|skip);first|((with_reducible refine NIf.yes ?s ?_);(case s=>(rw [hnb];rfl));conv=>whnf)|((with_reducible refine NIf.no ?s ?_);(case s=>(rw [hnb];rfl));conv=>whnf))|((first|intro A B hA hB|intro K hK|skip);first|((with_reducible refine NIf.yes ?s ?_);(case s=>simp ;done);conv=>whnf)|((with_reducible refine NIf.no ?s ?_);(case s=>simp ;done);conv=>whnf))|(refine aJ [] ?_;(try clear hK K);try clear hA hB A B)|refine sxW ?_ ?_<;>intro _|refine aK ?_ ?_|(intro K hK _;conv=>whnf)
    all_goals first | (exfalso;omega) | exact ⟨rfl,Qw.pre 1 rfl⟩
   ·repeat' first|(intro K hK;(with_reducible refine gC ?_);first|refine Go.Sx.cP w1 ?_|refine Go.Sx.cP w2 ?_|refine Go.Sx.cS [0] cS ?_)|(refine aJ [] ?_;try clear hK K)|refine sxW ?_ ?_<;>intro _|refine aK ?_ ?_|(intro K hK _;conv=>whnf)
    all_goals first | (exfalso;omega) | exact ⟨rfl,Qw.pre 1 rfl⟩
 ·have hy:Tr.alike (Tr.fK k) a b=true:=hs.2 ⟨hl,fun i x y h1 h2=>hgone i x y (by have:=(List.getElem?_eq_some_iff.1 h1).1;omega) h1 h2⟩
  rw [hy]
  repeat' first|(refine sxZ ?_;try clear hK K)|refine sxW ?_ ?_<;>intro _|(intro K hK _;conv=>whnf)
  all_goals exact ⟨rfl,Qw.pre 1 rfl⟩
end Go.Proofs.YtmehinfgdcmmjaaGreatDoor
