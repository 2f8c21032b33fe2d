import Derived.Test.YtmehinfgdcmmjaaGreatJ38
import Derived.Test.YtmehinfgdcmmjaaGreatJ33
import Derived.Test.YtmehinfgdcmmjaaGreatJ36
import Derived.Test.YtmehinfgdcmmjaaGreatJ31
import Derived.Test.YtmehinfgdcmmjaaGreatJ25
import Derived.Test.YtmehinfgdcmmjaaGreatJ43
import Derived.Test.YtmehinfgdcmmjaaGreatJ44
import Derived.Test.YtmehinfgdcmmjaaGreatJ32
import Derived.Test.YtmehinfgdcmmjaaGreatJ18
namespace Go.Proofs.YtmehinfgdcmmjaaGreat
open Go.Sx
set_option maxRecDepth 20000
set_option maxHeartbeats 8000000
set_option linter.unusedVariables false
namespace Tr
end Tr
set_option linter.unusedSimpArgs false
def Tr.pok (s:Po.S):Prop:=(0≤s.p0∧s.p0≤255)∧(0≤s.p1∧s.p1≤255)∧(0≤s.p2∧s.p2≤15)∧(0≤s.p3∧s.p3≤255)
instance (s:Po.S):Decidable (Tr.pok s):=by unfold Tr.pok;infer_instance
theorem ld (s:Po.S):NCall Tryz.prog 6 [.agg [.int .i64 s.p0,.int .i64 s.p1,.int .i64 s.p2,.int .i64 s.p3]] [] fun r _=>r = .bool (decide (Tr.pok s)):=by
 have t0:NCall Tryz.prog 18 [.int .i64 0] [] fun r _=>r = .int .i64 255:=dZ 0
 have t1:NCall Tryz.prog 18 [.int .i64 (0+1)] [] fun r _=>r = .int .i64 255:=dZ 1
 have t2:NCall Tryz.prog 18 [.int .i64 (0+1+1)] [] fun r _=>r = .int .i64 15:=dZ 2
 have t3:NCall Tryz.prog 18 [.int .i64 (0+1+1+1)] [] fun r _=>r = .int .i64 255:=dZ 3
 unfold Tr.pok
 obtain ⟨s0,s1,s2,s3,s4⟩:=s
 simp only
 refine aA Tryz.func6 rfl (by decide) ?_
 repeat' first|((with_reducible refine gX ?_);with_reducible refine bI 5 ?_)|((try intro K hK);(with_reducible refine gQ ?_);refine NCallQ.pureEq t0 ?_;conv=>whnf)|((try intro K hK);(with_reducible refine gQ ?_);refine NCallQ.pureEq t1 ?_;conv=>whnf)|((try intro K hK);(with_reducible refine gQ ?_);refine NCallQ.pureEq t2 ?_;conv=>whnf)|((try intro K hK);(with_reducible refine gQ ?_);refine NCallQ.pureEq t3 ?_;conv=>whnf)|(refine sxZ ?_;try clear hK K)|refine sxW ?_ ?_<;>intro _|(intro K hK _;conv=>whnf)
 all_goals first | exact ge (by omega) | exact eE (by omega)
namespace Cm
theorem both_eq {L R:List Po.S} (hn:L.Nodup) (hr:Po.Rising R) (hm:∀ w,w∈L↔w∈R):Po.both [] L=R∧L.length=R.length:=by
 have hb:Po.Rising (Po.both [] L):=Po.both_rising L List.Pairwise.nil
 have hnd:∀ {l:List Po.S},Po.Rising l→l.Nodup:=fun h=>List.Pairwise.imp (fun {a b} hab e=>by subst e;exact Po.ahead_irrefl _ hab) h
 have hmb:∀ w,w∈Po.both [] L↔w∈R:=fun w=>by rw [Po.mem_both,← hm w];simp
 have h1:Po.both [] L=R:=Po.sorted_eq (List.Perm.refl _) (hnd hb) (List.Pairwise.imp (fun {a b} hab hba=>Po.ahead_irrefl _ (Po.ahead_trans hab hba)) hb) hr hmb
 exact ⟨h1,((List.perm_ext_iff_of_nodup hn (hnd hr)).2 hm).length_eq⟩
theorem right_n {t:Tp.T} (h:Tp.right t=true):1≤t.n∧t.n≤8:=by
 unfold Tp.right Tp.bounds at h
 simp only [Bool.and_eq_true,decide_eq_true_eq] at h
 omega
theorem wide_lt {x:Po.T} (h:Po.right x=true):Po.wide x<1000:=by
 unfold Po.right at h
 simp only [Bool.and_eq_true,decide_eq_true_eq] at h
 omega
theorem tb_sends {x:Po.T} {room:Int} {sw:Nat} {t:Po.S} (hr:Po.right x=true) (hfw:Tr.few x=true) (hin:In t) (h0:0≤t.port) (h2:(tb x room sw).2=0) :
  ∃ y L,(tb x room sw).1.find? (hitR t)=some y∧y.acts.length≤1000∧(Ac.run (p4 t) y.acts).map toS=L∧Po.both [] L=Po.runs sw x t∧L.length=(Po.runs sw x t).length:=by
 have hxf:=Po.right_fits' hr
 obtain ⟨hn,hout,hce,hcn⟩:=Tr.ans_facts sw x hfw
 have hak:=ans_ok sw x
 have hans:Tr.ans sw x=(Tr.all sw x,0):=by unfold Tr.ans;rw [if_pos hr]
 rw [hans] at hn hout hak
 dsimp only at hn hout hak
 have ht:∀ f,Tr.ok f→0≤Tr.gt f t:=fun f hf=>by
  rcases Tr.ok5 hf with rfl | rfl | rfl | rfl | rfl
  ·exact hin.p0.1
  ·exact hin.p1.1
  ·exact hin.p2.1
  ·exact hin.p3.1
  ·exact h0
 obtain ⟨c,hfind,hnd,hmem⟩:=Tr.found_runs sw x hxf t ht
 have hcm:=List.mem_of_find?_eq_some hfind
 obtain ⟨hb1,hb2⟩:=both_eq hnd (Po.runs_rising sw t _ x (Nat.le_refl _)) hmem
 have htb:tb x room sw=if scan (Tr.all sw x)≠0 then ([],scan (Tr.all sw x)) else if ((Tr.all sw x).length:Int)>room then ([],6) else (rules (Tr.all sw x).length 0 (Tr.all sw x),0):=by
  unfold tb
  rw [hans]
  unfold tbl
  rw [if_neg (by simp)]
 by_cases hsc:scan (Tr.all sw x)=0
 rotate_left
 ·rw [htb,if_pos hsc] at h2;exact absurd h2 hsc
 rw [if_neg (by simpa using hsc)] at htb
 by_cases hlr:((Tr.all sw x).length:Int)>room
 ·rw [htb,if_pos hlr] at h2;exact absurd h2 (by decide)
 rw [if_neg hlr] at htb
 have hca:=scan_all hsc c hcm
 have hok9:=hak c hcm
 obtain ⟨kk,hfr⟩:=find_rules hin (Tr.all sw x).length (Tr.all sw x) 0 (fun c hc=>(hak c hc).1) c hfind
 have hport:c.s.port = -1∨c.s.port=t.port:=by
  have h:=List.find?_some hfind
  have h2:=of_decide_eq_true h 4 (by decide)
  exact h2
 have hrun:=run_acts (t:=t) hca hok9.2 hport
 rw [htb]
 exact ⟨_,_,hfr,by
  have:=(acts_ok hok9.1 hok9.2).1
  show (acts c).1.length≤1000
  omega,hrun,hb1,hb2⟩
end Cm
theorem ol (F:Heap) (tx:List UInt8) (hs:tx.length≤9223372036854775807) (t:Tp.T) (lv hv:Value) (ht:Tp.At F t lv hv) (room sw:Int) (q:Po.S) :
  NCall Tryz.prog 3 [.str tx,.agg (Tp.cs t lv hv),.int .i64 room,.int .i64 sw,.int .i64 q.port,.agg [.int .i64 q.p0,.int .i64 q.p1,.int .i64 q.p2,.int .i64 q.p3]] [hpB F] fun r _=>r = .bool true:=by
 have hlo:=ht.l.ok
 have hho:=ht.h.ok
 have cw:=fun G=>mC G
 by_cases hlong:4000<tx.length
 ·have cp:=fq tx hlong hs F
  have cw:=cw F
  clear ht
  obtain ⟨n,ls,hs'⟩:=t
  obtain ⟨q0,q1,q2,q3,q4⟩:=q
  simp only [ax,Tp.cs,Po.T.l,Po.T.p,Pd.T.k,Pd.T.f,Pd.T.v,Pd.T.l,Ps.zero27,Ps.none26] at *
  refine aA Tryz.func3 rfl (by decide) ?_
  repeat' first|((try intro K hK);(with_reducible refine gC ?_);first|refine Go.Sx.cS [0] cp ?_|refine Go.Sx.cS [0] cw ?_)|((first|intro A B hA hB|intro K hK|skip);first|((with_reducible refine NIf.yes ?s ?_);(case s=>simp ;done);conv=>whnf)|((with_reducible refine NIf.no ?s ?_);(case s=>simp ;done);conv=>whnf))|(refine sxZ ?_;(try clear hK K);try clear hA hB A B)|refine sxW ?_ ?_<;>intro _|(intro K hK _;conv=>whnf)
  all_goals first | rfl | (exfalso;omega)
 have hlen:tx.length≤4000:=by omega
 have cp:=jL tx hlen F
 have hta:Po.tot (Ps.out27 tx).1≤1000000000:=Nat.le_trans (Ps.tot_all tx) (by decide)
 have cF:=fun G pu u (h:Po.At G (Ps.out27 tx).1 pu u)=>qj G (Ps.out27 tx).1 pu u hta h
 have cP:=ld q
 have hoe:=Cm.out_err tx
 by_cases hall:tx.length≤600∧t.ls.length≤30∧t.hs.length≤12∧((Ps.out27 tx).2.2=0→Tr.few (Ps.out27 tx).1=true)∧Tr.pok q∧0≤q.port∧q.port≤7
 rotate_left
 ·have hall:∀ b1 b2,Tr.few (Ps.out27 tx).1=b1→decide (Tr.pok q)=b2→tx.length≤600→t.ls.length≤30→t.hs.length≤12→((Ps.out27 tx).2.2=0→b1=true)→b2=true→¬ (0≤q.port∧q.port≤7):=fun b1 b2 e1 e2 h1 h2 h3 h4 h5 h6=>hall ⟨h1,h2,h3,fun h=>e1.trans (h4 h),of_decide_eq_true (e2.trans h5),h6⟩
  have hall:=hall _ _ rfl rfl
  have cp:=cp.mono (K':=fun r m=>∃ G pu u,F.le G∧Po.At G (Ps.out27 tx).1 pu u∧(SlOk pu (Ps.out27 tx).1.p.l.length∧SlOk u (Ps.out27 tx).1.l.length)∧r = .tup [.agg (Po.cs (Ps.out27 tx).1 pu u),.int .i64 (Ps.out27 tx).2.1,.int .i64 (Ps.out27 tx).2.2]∧m=[hpB G]) fun r m ⟨G,pu,u,h1,h2,h3,h4⟩=>⟨G,pu,u,h1,h2,⟨h2.p.ok,h2.l.ok⟩,h3,h4⟩
  generalize Tr.few (Ps.out27 tx).1=b1 at *
  generalize decide (Tr.pok q)=b2 at *
  generalize Ps.out27 tx=o at *
  obtain ⟨x,at_,e⟩:=o
  dsimp only at *
  clear ht hta hoe
  obtain ⟨k,⟨pk,pf,pv,pl⟩,a,v,l⟩:=x
  obtain ⟨n,ls,hs'⟩:=t
  obtain ⟨q0,q1,q2,q3,q4⟩:=q
  simp only [ax,Tp.cs,Po.T.l,Po.T.p,Pd.T.k,Pd.T.f,Pd.T.v,Pd.T.l] at *
  refine aA Tryz.func3 rfl (by decide) ?_
  by_cases a1:600<tx.length
  ·repeat' first|(intro K hK;(with_reducible refine gC ?_);first|(refine Go.Sx.cN [0] cp ?_;rintro _ _ ⟨G,pu,u,h1,h2,⟨h3,h4⟩,rfl,rfl⟩;refine Go.Sx.cR ?_)|refine Go.Sx.cS [0] (cw G) ?_)|(refine sxZ ?_;try clear hK K)|refine sxW ?_ ?_<;>intro _|(intro K hK _;conv=>whnf)
   all_goals first | rfl | (exfalso;omega)
  by_cases a2:30<ls.length
  ·repeat' first|(intro K hK;(with_reducible refine gC ?_);first|(refine Go.Sx.cN [0] cp ?_;rintro _ _ ⟨G,pu,u,h1,h2,⟨h3,h4⟩,rfl,rfl⟩;refine Go.Sx.cR ?_)|refine Go.Sx.cS [0] (cw G) ?_)|(refine sxZ ?_;try clear hK K)|refine sxW ?_ ?_<;>intro _|(intro K hK _;conv=>whnf)
   all_goals first | rfl | (exfalso;omega)
  by_cases a3:12<hs'.length
  ·repeat' first|(intro K hK;(with_reducible refine gC ?_);first|(refine Go.Sx.cN [0] cp ?_;rintro _ _ ⟨G,pu,u,h1,h2,⟨h3,h4⟩,rfl,rfl⟩;refine Go.Sx.cR ?_)|refine Go.Sx.cS [0] (cw G) ?_)|(refine sxZ ?_;try clear hK K)|refine sxW ?_ ?_<;>intro _|(intro K hK _;conv=>whnf)
   all_goals first | rfl | (exfalso;omega)
  have hall:=hall (by omega) (by omega) (by omega)
  have hwork:∀ b1' b2',b1=b1'→b2=b2'→(b1'=true∨b1'=false):=fun b1' _ _ _=>by cases b1'<;>simp
  by_cases he:e=0
  ·subst he
   cases b1
   ·repeat' first|(intro K hK;(with_reducible refine gC ?_);first|(refine Go.Sx.cN [0] cp ?_;rintro _ _ ⟨G,pu,u,h1,h2,⟨h3,h4⟩,rfl,rfl⟩;refine Go.Sx.cR ?_)|refine Go.Sx.cS [0] (cF G pu u h2) ?_|refine Go.Sx.cS [0] (cw G) ?_)|(refine sxZ ?_;try clear hK K)|refine sxW ?_ ?_<;>intro _|(intro K hK _;conv=>whnf)
    all_goals first | rfl | (exfalso;omega)
   have hall:=hall (fun _=>rfl)
   cases b2
   ·repeat' first|(intro K hK;(with_reducible refine gC ?_);first|(refine Go.Sx.cN [0] cp ?_;rintro _ _ ⟨G,pu,u,h1,h2,⟨h3,h4⟩,rfl,rfl⟩;refine Go.Sx.cR ?_)|refine Go.Sx.cS [0] (cF G pu u h2) ?_|refine Go.Sx.cP cP ?_|refine Go.Sx.cS [0] (cw G) ?_)|(refine sxZ ?_;try clear hK K)|refine sxW ?_ ?_<;>intro _|(intro K hK _;conv=>whnf)
    all_goals first | rfl | (exfalso;omega)
   have hall:=hall rfl
   by_cases h0:q0<0
   iterate 2
    ·repeat' first|(intro K hK;(with_reducible refine gC ?_);first|(refine Go.Sx.cN [0] cp ?_;rintro _ _ ⟨G,pu,u,h1,h2,⟨h3,h4⟩,rfl,rfl⟩;refine Go.Sx.cR ?_)|refine Go.Sx.cS [0] (cF G pu u h2) ?_|refine Go.Sx.cP cP ?_|refine Go.Sx.cS [0] (cw G) ?_)|(refine sxZ ?_;try clear hK K)|refine sxW ?_ ?_<;>intro _|(intro K hK _;conv=>whnf)
     all_goals first | rfl | (exfalso;omega)
  ·have hall:=hall (fun h=>absurd h he)
   cases b2
   ·repeat' first|(intro K hK;(with_reducible refine gC ?_);first|(refine Go.Sx.cN [0] cp ?_;rintro _ _ ⟨G,pu,u,h1,h2,⟨h3,h4⟩,rfl,rfl⟩;refine Go.Sx.cR ?_)|refine Go.Sx.cP cP ?_|refine Go.Sx.cS [0] (cw G) ?_)|(refine sxZ ?_;try clear hK K)|refine sxW ?_ ?_<;>intro _|(intro K hK _;conv=>whnf)
    all_goals first | rfl | (exfalso;omega)
   have hall:=hall rfl
   by_cases h0:q0<0
   iterate 2
    ·repeat' first|(intro K hK;(with_reducible refine gC ?_);first|(refine Go.Sx.cN [0] cp ?_;rintro _ _ ⟨G,pu,u,h1,h2,⟨h3,h4⟩,rfl,rfl⟩;refine Go.Sx.cR ?_)|refine Go.Sx.cP cP ?_|refine Go.Sx.cS [0] (cw G) ?_)|(refine sxZ ?_;try clear hK K)|refine sxW ?_ ?_<;>intro _|(intro K hK _;conv=>whnf)
     all_goals first | rfl | (exfalso;omega)
 obtain ⟨h600,h30,h12,hfw,hp,hp0,hp7⟩:=hall
 rw [decide_eq_true hp] at cP
 have cP:NCall Tryz.prog 6 [.agg [.int .i64 q.p0,.int .i64 q.p1,.int .i64 q.p2,.int .i64 q.p3]] [] fun r _=>r = .bool true:=cP
 have hrn:=fun (h:Tp.right t=true)=>Cm.right_n h
 have cC:=fun G (hG:F.le G)=>eN G tx hlen t lv hv (Tp.right t) (Tp.At.mono hG ht) (by omega) (by omega) (fun G' hG'=>gD G' t lv hv (Tp.At.mono (hG.trans hG') ht) (by omega) (by omega)) (fun h=>(hrn h).2) room (fun h=>Cm.fit_of hta (hfw h)) (Nat.le_trans hta (by decide))
 by_cases hE:(Cm.comp (Tp.right t) t (Ps.out27 tx) room).2.2=0
 rotate_left
 ·obtain ⟨hl0,hk,hfe⟩:=Cm.comp_bad hoe hE
  have cp:=cp.mono (K':=fun r m=>∃ G pu u,F.le G∧Po.At G (Ps.out27 tx).1 pu u∧(SlOk pu (Ps.out27 tx).1.p.l.length∧SlOk u (Ps.out27 tx).1.l.length)∧r = .tup [.agg (Po.cs (Ps.out27 tx).1 pu u),.int .i64 (Ps.out27 tx).2.1,.int .i64 (Ps.out27 tx).2.2]∧m=[hpB G]) fun r m ⟨G,pu,u,h1,h2,h3,h4⟩=>⟨G,pu,u,h1,h2,⟨h2.p.ok,h2.l.ok⟩,h3,h4⟩
  have hfw':∀ b,Tr.few (Ps.out27 tx).1=b→((Ps.out27 tx).2.2=0→b=true):=fun b h h2=>h.symm.trans (hfw h2)
  have hfw':=hfw' _ rfl
  generalize Cm.comp (Tp.right t) t (Ps.out27 tx) room=C at *
  obtain ⟨L,ca,ce⟩:=C
  dsimp only at *
  subst hl0
  have cC:=fun G hG=>(cC G hG).mono (K':=fun r m=>∃ G' v,G.le G'∧SlOk v 0∧r = .tup [.hs v 0,.int .i64 ca,.int .i64 ce]∧m=[hpB G']) fun r m ⟨G',v,h1,h2,h3,h4⟩=>⟨G',v,h1,h2.ok,h3,h4⟩
  generalize Tr.few (Ps.out27 tx).1=b1 at *
  generalize Ps.out27 tx=o at *
  obtain ⟨x,at_,e⟩:=o
  dsimp only at *
  clear ht hta hoe hfw hrn hp
  obtain ⟨k,⟨pk,pf,pv,pl⟩,a,v,l⟩:=x
  obtain ⟨n,ls,hs'⟩:=t
  obtain ⟨q0,q1,q2,q3,q4⟩:=q
  simp only [ax,Tp.cs,Po.T.l,Po.T.p,Pd.T.k,Pd.T.f,Pd.T.v,Pd.T.l] at *
  refine aA Tryz.func3 rfl (by decide) ?_
  by_cases he:e=0
  ·subst he
   obtain rfl:=hfw' rfl
   unfold Cm.known at hk
   rcases hk with rfl | rfl | rfl | rfl | rfl | rfl
   all_goals
    repeat' first|(intro K hK;(with_reducible refine gC ?_);first|(refine Go.Sx.cN [0] cp ?_;rintro _ _ ⟨G,pu,u,h1,h2,⟨h3,h4⟩,rfl,rfl⟩;refine Go.Sx.cR ?_)|refine Go.Sx.cS [0] (cF G pu u h2) ?_|refine Go.Sx.cP cP ?_|(refine Go.Sx.cN [0] (cC G h1) ?_;rintro _ _ ⟨G2,w,j1,j2,rfl,rfl⟩;refine Go.Sx.cR ?_)|refine Go.Sx.cS [0] (cw G2) ?_)|(refine sxZ ?_;try clear hK K)|refine sxW ?_ ?_<;>intro _|(intro K hK _;conv=>whnf)
    all_goals first | rfl | (exfalso;omega)
  ·have hce:ce=e:=hfe.resolve_left he
   subst hce
   unfold Cm.known at hk
   rcases hk with rfl | rfl | rfl | rfl | rfl | rfl
   all_goals
    repeat' first|(intro K hK;(with_reducible refine gC ?_);first|(refine Go.Sx.cN [0] cp ?_;rintro _ _ ⟨G,pu,u,h1,h2,⟨h3,h4⟩,rfl,rfl⟩;refine Go.Sx.cR ?_)|refine Go.Sx.cP cP ?_|(refine Go.Sx.cN [0] (cC G h1) ?_;rintro _ _ ⟨G2,w,j1,j2,rfl,rfl⟩;refine Go.Sx.cR ?_)|refine Go.Sx.cS [0] (cw G2) ?_)|(refine sxZ ?_;try clear hK K)|refine sxW ?_ ?_<;>intro _|(intro K hK _;conv=>whnf)
    all_goals first | rfl | (exfalso;omega)
 obtain ⟨he0,hb,hr,hLl,hLj⟩:=Cm.comp_ok hE
 have hfw:=hfw he0
 obtain ⟨hn1,hn8⟩:=hrn hb
 have hin:Cm.In q:=⟨hp.1,hp.2.1,hp.2.2.1,hp.2.2.2⟩
 have hxf:=Po.right_fits' hr
 have hwd:Po.wide (Ps.out27 tx).1<1000:=Cm.wide_lt hr
 have hxt:Po.tot (Ps.out27 tx).1≤4611686018427387904:=by omega
 by_cases hsw:0≤sw∧sw<t.n
 rotate_left
 ·rw [hfw] at cF
  have cp:=cp.mono (K':=fun r m=>∃ G pu u,F.le G∧Po.At G (Ps.out27 tx).1 pu u∧(SlOk pu (Ps.out27 tx).1.p.l.length∧SlOk u (Ps.out27 tx).1.l.length)∧r = .tup [.agg (Po.cs (Ps.out27 tx).1 pu u),.int .i64 (Ps.out27 tx).2.1,.int .i64 (Ps.out27 tx).2.2]∧m=[hpB G]) fun r m ⟨G,pu,u,h1,h2,h3,h4⟩=>⟨G,pu,u,h1,h2,⟨h2.p.ok,h2.l.ok⟩,h3,h4⟩
  generalize Cm.comp (Tp.right t) t (Ps.out27 tx) room=C at *
  obtain ⟨L,ca,ce⟩:=C
  dsimp only at *
  subst hE
  have cC:=fun G hG=>(cC G hG).mono (K':=fun r m=>∃ G' v,G.le G'∧SlOk v t.n.toNat∧r = .tup [.hs v t.n.toNat,.int .i64 ca,.int .i64 0]∧m=[hpB G']) fun r m ⟨G',v,h1,h2,h3,h4⟩=>⟨G',v,h1,hLl ▸ h2.ok,hLl ▸ h3,h4⟩
  clear hLj hLl hxf hwd hxt hin hp hrn hfw hr hb hoe hta
  generalize Ps.out27 tx=o at *
  obtain ⟨x,at_,e⟩:=o
  dsimp only at *
  subst he0
  clear ht
  obtain ⟨k,⟨pk,pf,pv,pl⟩,a,v,l⟩:=x
  obtain ⟨n,ls,hs'⟩:=t
  obtain ⟨q0,q1,q2,q3,q4⟩:=q
  simp only [ax,Tp.cs,Po.T.l,Po.T.p,Pd.T.k,Pd.T.f,Pd.T.v,Pd.T.l] at *
  refine aA Tryz.func3 rfl (by decide) ?_
  by_cases hs0:sw<0
  all_goals
   repeat' first|(intro K hK;(with_reducible refine gC ?_);first|(refine Go.Sx.cN [0] cp ?_;rintro _ _ ⟨G,pu,u,h1,h2,⟨h3,h4⟩,rfl,rfl⟩;refine Go.Sx.cR ?_)|refine Go.Sx.cS [0] (cF G pu u h2) ?_|refine Go.Sx.cP cP ?_|(refine Go.Sx.cN [0] (cC G h1) ?_;rintro _ _ ⟨G2,w,j1,j2,rfl,rfl⟩;refine Go.Sx.cR ?_)|refine Go.Sx.cS [0] (cw G2) ?_)|(refine sxZ ?_;try clear hK K)|refine sxW ?_ ?_<;>intro _|(intro K hK _;conv=>whnf)
   all_goals first | rfl | (exfalso;omega)
 obtain ⟨s,rfl⟩:∃ s:Nat,sw=(s:Int):=⟨sw.toNat,by omega⟩
 have hsn:s<t.n.toNat:=by omega
 have hR64:=Po.runs_64 s (Ps.out27 tx).1 hr q
 have cN:=fun G a b (h:Po.At G (Ps.out27 tx).1 a b)=>dI s _ G (Ps.out27 tx).1 a b q (Nat.le_refl _) hxt hxf hwd h
 obtain ⟨htb0,hLs⟩:=hLj s hsn
 obtain ⟨y,L,hfr,hal,hrunL,hb1,hb2⟩:=Cm.tb_sends (room:=room) (sw:=s) hr hfw hin hp0 htb0
 obtain ⟨f1,f2,f3,f4⟩:=Cm.tbl_facts (C:=(Tr.ans s (Ps.out27 tx).1).1) (e:=(Tr.ans s (Ps.out27 tx).1).2) (room:=room) (Tr.ans_facts s _ hfw).1 (Cm.ans_ok s _)
 have f4:=f4 htb0
 have etb:(Cm.tbl (Tr.ans s (Ps.out27 tx).1).1 (Tr.ans s (Ps.out27 tx).1).2 room).1=(Cm.tb (Ps.out27 tx).1 room s).1:=rfl
 rw [etb] at f1 f2 f4
 simp only [etb] at f3
 have hL64:L.length≤1000:=by omega
 generalize hTT:(Cm.tb (Ps.out27 tx).1 room s).1=TT at *
 clear hTT htb0 hLj
 have cT:=fun G v (h:Cm.Row G v TT)=>rH G q hin v TT h (fun y hy=>(f2 y hy).2.2.1) (by omega) y hfr hal
 rw [hrunL] at cT
 have cX:=fun G v (h:Cm.Row G v TT)=>oM G v TT h (by omega) room f4 8 (fun x hx=>Cm.in64_of (f2 x hx) (by decide)) f2 f3
 have hRm:=fun G G' v (hG:G.le G') (h:Cm.Row G v TT)=>Cm.Row.mono hG h
 have hRle:(Po.runs s (Ps.out27 tx).1 q).length≤1000:=by omega
 generalize Po.runs s (Ps.out27 tx).1 q=R at *
 have cS:=fun G z z' (h:Po.SRow G z R) (h':Po.SRow G z' R)=>ob G z z' R R h h' (by omega) (by omega)
 rw [show decide (R=R)=true by simp] at cS
 have hbt:=fun (k:Nat) (h:k<L.length)=>Po.both_take [] h
 have hbl:=fun (k:Nat)=>Po.both_len (L.take k) []
 have hb0:Po.both [] (L.take 0)=[]:=rfl
 have hbe:Po.both [] (L.take L.length)=R:=by rw [List.take_length];exact hb1
 have hAm:=fun (G G':Heap) (a b:Value) (h:G.le G') (h2:Po.At G (Ps.out27 tx).1 a b)=>Po.At.mono h h2
 generalize hB:(fun k=>Po.both [] (L.take k))=B
 have hB2:∀ k,Po.both [] (L.take k)=B k:=fun k=>by rw [← hB]
 simp only [hB2] at hbt hbl hb0 hbe
 have hfw':∀ b,Tr.few (Ps.out27 tx).1=b→b=true:=fun b h=>h.symm.trans hfw
 rw [hfw] at cF
 have cp:=cp.mono (K':=fun r m=>∃ G pu u,F.le G∧Po.At G (Ps.out27 tx).1 pu u∧(SlOk pu (Ps.out27 tx).1.p.l.length∧SlOk u (Ps.out27 tx).1.l.length)∧r = .tup [.agg (Po.cs (Ps.out27 tx).1 pu u),.int .i64 (Ps.out27 tx).2.1,.int .i64 (Ps.out27 tx).2.2]∧m=[hpB G]) fun r m ⟨G,pu,u,h1,h2,h3,h4⟩=>⟨G,pu,u,h1,h2,⟨h2.p.ok,h2.l.ok⟩,h3,h4⟩
 have hcm:=fun (G G':Heap) a v (hG:G.le G') (h:G.c a v)=>hG.c a v h
 generalize Cm.comp (Tp.right t) t (Ps.out27 tx) room=C at *
 obtain ⟨LL,ca,ce⟩:=C
 dsimp only at hE hLl hLs cC
 subst hE
 have cC:=fun G hG=>(cC G hG).mono (K':=fun r m=>∃ G' v A cap,G.le G'∧(SlOk v t.n.toNat∧SlOk (.slice A TT.length cap) TT.length)∧Cm.Row G' (.slice A TT.length cap) TT∧G'.c ((addrOf v).add s) (.slice A TT.length cap)∧r = .tup [.hs v t.n.toNat,.int .i64 ca,.int .i64 0]∧m=[hpB G']) fun r m ⟨G',v,h1,h2,h3,h4⟩=>by
  obtain ⟨A,cap,h5,h6⟩:=h2.get hLs
  exact ⟨G',v,A,cap,h1,⟨hLl ▸ h2.ok,h5.ok⟩,h5,h6,hLl ▸ h3,h4⟩
 clear hr hfw hp hin hxf hrn hfr hal hrunL hb1 hB hB2 f2 f3 f1 f4 hLs hLl hwd hxt hta hoe hfw' hb
 generalize Ps.out27 tx=o at *
 obtain ⟨x,at_,e⟩:=o
 dsimp only at *
 subst he0
 clear ht
 obtain ⟨k,⟨pk,pf,pv,pl⟩,a,v,l⟩:=x
 obtain ⟨n,ls,hs'⟩:=t
 obtain ⟨q0,q1,q2,q3,q4⟩:=q
 simp only [ax,Tp.cs,Po.Sents,Po.T.l,Po.T.p,Pd.T.k,Pd.T.f,Pd.T.v,Pd.T.l] at *
 refine aA Tryz.func3 rfl (by decide) ?_
 repeat' first|(intro K hK;(with_reducible refine gC ?_);first|(refine Go.Sx.cN [0] cp ?_;rintro _ _ ⟨G1,pu,u,h1,h2,⟨h3,h4⟩,rfl,rfl⟩;refine Go.Sx.cR ?_)|refine Go.Sx.cS [0] (cF G1 pu u h2) ?_|refine Go.Sx.cP cP ?_|(refine Go.Sx.cN [0] (cC G1 h1) ?_;rintro _ _ ⟨G2,w,A,cap,j1,⟨j2,j3⟩,hrow,hld,rfl,rfl⟩;refine Go.Sx.cR ?_)|(refine Go.Sx.cN [0] (cT G2 _ hrow) ?_;rintro _ _ ⟨G3,w3,hle3,hw3,rfl,rfl⟩;refine Go.Sx.cR ?_))|(refine aV [0] ?_;try clear hK K)|refine sxW ?_ ?_<;>intro _|refine aW ?_ ?_|(intro K hK _;conv=>whnf)
 all_goals try (exfalso;omega)
 have hw3o:=hw3.ok
 refine aD (α:=Heap × Value × Nat) (fun (G,v,i)=>i≤L.length∧G3.le G∧Po.SRow G v (B i)) (fun (G,v,i)=>[.k,.k,.k,.k,.k,.k,.k,.k,.k,.k,.k,.k,.k,.k,.k,.k,.k,.k,.k,.k,.set (.hs v (B i).length),.k,.set (.int .i64 i),.k,.k,.k,.k,.k,.k,.k,.k,.k,.k,.k,.k,.k,.k,.k,.k,.k,.k,.k,.k,.k,.k,.k,.k,.k,.k,.k,.k,.k,.k,.k,.k,.k,.k,.k,.k,.k,.k,.k,.k,.k,.k,.k,.k,.k,.k,.k,.k,.k,.k,.k,.k,.k,.k,.k,.k,.k,.k,.k,.k,.k,.k,.k,.k,.k,.k,.k,.k,.k,.k,.k,.k,.k,.k,.k,.k,.k,.k,.k,.k,.k,.k,.k,.k,.k,.k,.k,.k,.k,.k,.k,.k,.k,.k,.k,.k,.k,.k,.k,.k,.k,.k,.k,.k,.k,.k,.k,.k,.k,.k,.k,.k,.k,.k,.k,.k,.k,.k,.k,.d,.d,.d,.d,.d,.d,.d,.d,.d,.d,.d,.d,.k,.k,.k,.k,.k,.k,.k,.k,.k,.k,.k,.k,.k,.k,.k,.k,.k,.k,.k,.k,.k,.k,.k,.k,.k]) (fun (G,v,i)=>[.set (hpB G),.k,.k,.k]) (fun (G,v,i)=>L.length - i) (G3,.slice none 0 0,0) ⟨Nat.zero_le _,G3.le_refl,by rw [hb0];exact aH.nil⟩ ?_ ?_ ?_
 ·dsimp only
  rw [hb0]
  repeat (first | exact FitsSl.nil | refine FitsSl.any ?_ | refine FitsSl.cons (Fit1.nilhs (by  rfl)) ?_ | refine FitsSl.cons (Fit1.int (by first | rfl | omega)) ?_ | refine FitsSl.cons (Fit1.bool rfl) ?_ | refine FitsSl.cons (Fit1.str rfl) ?_ | refine FitsSl.cons (Fit1.same (by intro h;cases h) (by with_reducible rfl)) ?_ | refine FitsSl.cons Fit1.nil_sl ?_ | refine FitsSl.cons (Fit1.hs rfl) ?_ | refine FitsSl.cons (Fit1.hp rfl rfl) ?_ | refine FitsSl.cons (Fit1.sl rfl) ?_ | refine FitsSl.cons (Fit1.ptr rfl rfl) ?_ | refine FitsSl.cons Fit1.raw ?_)
 ·exact MemFits.congr rfl
 (intro ⟨G,v9,i⟩ ⟨hi,hle4,hv9⟩;intro K hK;(conv=>whnf);refine hK _ _ ?_;clear hK K)
 dsimp only at hi hle4 hv9 ⊢
 have hv9o:=hv9.ok
 by_cases hlt:i<L.length
 ·obtain ⟨g0,g1,g2,g3,g4⟩:=aH.get5 (f0:=fun s:Po.S=>.int .i64 s.port) (f1:=fun s=>.int .i64 s.p0) (f2:=fun s=>.int .i64 s.p1) (f3:=fun s=>.int .i64 s.p2) (f4:=fun s=>.int .i64 s.p3) (Tr.srow_mono hle4 hw3) hlt
  have hnx:=hbt i hlt
  have hbi:=hbl i
  rw [List.length_take] at hbi
  simp only [List.length_nil] at hbi
  have cp:=mV G v9 (B i) L[i] (by omega) hv9
  rw [← hnx] at cp
  clear cN cS cC cT cX hnx
  generalize L[i]=y at *
  generalize B i=bi at *
  generalize hBn:B (i+1)=bn at *
  obtain ⟨y0,y1,y2,y3,y4⟩:=y
  simp only [Po.S.av] at *
  repeat' first|(intro K hK;(with_reducible refine gC ?_);(refine Go.Sx.cN [0] cp ?_;rintro _ _ ⟨G5,v5,h5,h6,rfl,rfl⟩;refine Go.Sx.cR ?_))|(refine sxZ ?_;try clear hK K)|refine sxW ?_ ?_<;>intro _|(intro K hK _;conv=>whnf)
  all_goals try (exfalso;omega)
  all_goals
   refine aB (G5,v5,i+1) ⟨hlt,hle4.trans h5,by rw [hBn];exact h6⟩ (by show L.length - (i+1)<L.length - i;omega) ?_ (MemFits.congr rfl)
   dsimp only
   rw [hBn]
   exact aC
 ·obtain rfl:i=L.length:=by omega
  rw [hbe] at hv9 hv9o ⊢
  have hG2:G2.le G:=hle3.trans hle4
  have hx9:=hAm _ _ _ _ (j1.trans hG2) h2
  have hld:=hcm _ _ _ _ hG2 hld
  have cX:=cX G _ (hRm _ _ _ hG2 hrow)
  have cN:=cN G pu u hx9
  clear hbt hbl hb0 hbe cC cT hAm hcm hRm
  repeat' first|((try intro K hK);(with_reducible refine gC ?_);first|refine Go.Sx.cS [0] cX ?_|(refine Go.Sx.cN [0] cN ?_;rintro _ _ ⟨G6,v6,h6,hv6,rfl,rfl⟩;refine Go.Sx.cR ?_)|refine Go.Sx.cS [0] (cS G6 v9 v6 (Tr.srow_mono h6 hv9) hv6) ?_|refine Go.Sx.cS [0] (cw _) ?_)|((first|intro A B hA hB|intro K hK|skip);first|((with_reducible refine NIf.yes ?s ?_);(case s=>simp [hb2];done);conv=>whnf)|((with_reducible refine NIf.no ?s ?_);(case s=>simp [hb2];done);conv=>whnf))|(refine aV [0] ?_;(try clear hK K);try clear hA hB A B)|refine sxW ?_ ?_<;>intro _|refine aW ?_ ?_|(intro K hK _;conv=>whnf)
  all_goals first | rfl | (exfalso;omega)
namespace Tp
def i64 (x:Int):Prop:=-9223372036854775808≤x∧x≤9223372036854775807
def lkI (x:Lk):Prop:=i64 x.a∧i64 x.pa∧i64 x.b∧i64 x.pb∧i64 x.least∧i64 x.most
def hsI (x:Hs):Prop:=i64 x.at_∧i64 x.port
end Tp
end Go.Proofs.YtmehinfgdcmmjaaGreat
