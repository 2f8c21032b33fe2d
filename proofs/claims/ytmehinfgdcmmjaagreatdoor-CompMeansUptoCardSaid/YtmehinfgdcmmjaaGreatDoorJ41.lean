import Derived.Test.YtmehinfgdcmmjaaGreatDoorJ40
import Derived.Test.YtmehinfgdcmmjaaGreatDoorJ23
import Derived.Test.YtmehinfgdcmmjaaGreatDoorJ22
import Derived.Test.YtmehinfgdcmmjaaGreatDoorJ39
import Derived.Test.YtmehinfgdcmmjaaGreatDoorJ8
import Derived.Test.YtmehinfgdcmmjaaGreatDoorRows
import Derived.ChangeArms
import Derived.Test.YtmehinfgdcmmjaaGreatDoorJ9
namespace Go.Proofs.YtmehinfgdcmmjaaGreatDoor
open Go.Sx
set_option maxRecDepth 20000
set_option linter.unusedSimpArgs false
set_option linter.unusedVariables false
set_option maxHeartbeats 8000000
set_option linter.unusedVariables false
def Tr.pok (s:Po.S):Prop:=(0≤s.p0∧s.p0≤255)∧(0≤s.p1∧s.p1≤255)∧(0≤s.p2∧s.p2≤15)∧(0≤s.p3∧s.p3≤255)
instance (s:Po.S):Decidable (Tr.pok s):=by unfold Tr.pok;infer_instance
theorem pright31_c (s:Po.S):NCall Tryz.prog 7 [.agg [.int .i64 s.p0,.int .i64 s.p1,.int .i64 s.p2,.int .i64 s.p3]] [] fun r _=>r = .bool (decide (Tr.pok s)):=by
 have t0:NCall Tryz.prog 23 [.int .i64 0] [] fun r _=>r = .int .i64 255:=reftop7_c 0
 have t1:NCall Tryz.prog 23 [.int .i64 (0+1)] [] fun r _=>r = .int .i64 255:=reftop7_c 1
 have t2:NCall Tryz.prog 23 [.int .i64 (0+1+1)] [] fun r _=>r = .int .i64 15:=reftop7_c 2
 have t3:NCall Tryz.prog 23 [.int .i64 (0+1+1+1)] [] fun r _=>r = .int .i64 255:=reftop7_c 3
 unfold Tr.pok
 obtain ⟨s0,s1,s2,s3,s4⟩:=s
 simp only
 refine ncall_of Tryz.func7 rfl (by decide) ?_
 repeat' first|((with_reducible refine gX ?_);with_reducible refine st_rounds 5 ?_)|((try intro K hK);(with_reducible refine gQ ?_);refine NCallQ.pureEq t0 ?_;(conv=>whnf))|((try intro K hK);(with_reducible refine gQ ?_);refine NCallQ.pureEq t1 ?_;(conv=>whnf))|((try intro K hK);(with_reducible refine gQ ?_);refine NCallQ.pureEq t2 ?_;(conv=>whnf))|((try intro K hK);(with_reducible refine gQ ?_);refine NCallQ.pureEq t3 ?_;(conv=>whnf))|(refine sxZ ?_;try clear hK K)|refine sxW ?_ ?_<;>intro _|(intro K hK _;(conv=>whnf))
 all_goals first | exact po_boolT (by omega) | exact po_boolF (by omega)
end Go.Proofs.YtmehinfgdcmmjaaGreatDoor
namespace Go.Proofs.YtmehinfgdcmmjaaGreatDoor
open Go.Sx
set_option maxRecDepth 20000
set_option linter.unusedSimpArgs false
set_option linter.unusedVariables false
set_option maxHeartbeats 8000000
set_option linter.unusedVariables false
namespace Cm
theorem both_eq {L R:List Po.S} (hn:L.Nodup) (hr:Po.Rising R) (hm:∀ w,w∈L↔w∈R):Po.both [] L=R∧L.length=R.length:=by
 have hb:Po.Rising (Po.both [] L):=Po.both_rising L List.Pairwise.nil
 have hnd:∀ {l:List Po.S},Po.Rising l→l.Nodup:=fun h=>List.Pairwise.imp (fun {a b} hab e=>by subst e;exact Po.ahead_irrefl _ hab) h
 have hmb:∀ w,w∈Po.both [] L↔w∈R:=fun w=>by rw [Po.mem_both,← hm w];simp
 have h1:Po.both [] L=R:=Po.sorted_eq (List.Perm.refl _) (hnd hb) (List.Pairwise.imp (fun {a b} hab hba=>Po.ahead_irrefl _ (Po.ahead_trans hab hba)) hb) hr hmb
 exact ⟨h1,((List.perm_ext_iff_of_nodup hn (hnd hr)).2 hm).length_eq⟩
end Cm
theorem pmeans32_c (F:Heap) (hT:TabF F) (x:Po.T) (pu u:Value) (sw:Int) (t:Po.S) (hs:Po.tot x≤1000000000) (hx:Po.At F x pu u) :
  NCall Tryz.prog 3 [.agg (Po.cs x pu u),.int .i64 sw,.int .i64 t.port,.agg [.int .i64 t.p0,.int .i64 t.p1,.int .i64 t.p2,.int .i64 t.p3]] [hpB F] fun r _=>r = .bool true:=by
 have hok:=hx.l.ok
 have hpok:=hx.p.ok
 have cw:=fun G (h:F.le G)=>awake32_c G (hT.mono h)
 have cR:=refright27_c F x pu u (by omega) hx
 have cF:=few31_c F x pu u hs hx
 have cP:=pright31_c t
 by_cases hall:Po.right x=true∧Tr.few x=true∧Tr.pok t∧0≤t.port∧t.port≤7
 rotate_left
 ·have cw:=cw F F.le_refl
  have hall:∀ b1 b2 b3,Po.right x=b1→Tr.few x=b2→decide (Tr.pok t)=b3→b1=true→b2=true→b3=true→¬ (0≤t.port∧t.port≤7):=fun b1 b2 b3 e1 e2 e3 h1 h2 h3 h4=>hall ⟨e1.trans h1,e2.trans h2,of_decide_eq_true (e3.trans h3),h4⟩
  have hall:=hall _ _ _ rfl rfl rfl
  generalize Po.right x=b1 at *
  generalize Tr.few x=b2 at *
  generalize decide (Tr.pok t)=b3 at *
  clear hx
  obtain ⟨k,⟨pk,pf,pv,pl⟩,a,v,l⟩:=x
  obtain ⟨t0,t1,t2,t3,t4⟩:=t
  simp only [po_cs,Po.T.l,Po.T.p,Pd.T.k,Pd.T.f,Pd.T.v,Pd.T.l] at *
  refine ncall_of Tryz.func3 rfl (by decide) ?_
  cases b1
  ·repeat' first|(intro K hK;(with_reducible refine gC ?_);first|refine Go.Sx.cS [0] cR ?_|refine Go.Sx.cS [0] cw ?_)|(refine sxZ ?_;try clear hK K)|refine sxW ?_ ?_<;>intro _|(intro K hK _;(conv=>whnf))
   all_goals rfl
  cases b2
  ·repeat' first|(intro K hK;(with_reducible refine gC ?_);first|refine Go.Sx.cS [0] cR ?_|refine Go.Sx.cS [0] cF ?_|refine Go.Sx.cS [0] cw ?_)|(refine sxZ ?_;try clear hK K)|refine sxW ?_ ?_<;>intro _|(intro K hK _;(conv=>whnf))
   all_goals rfl
  cases b3
  ·repeat' first|(intro K hK;(with_reducible refine gC ?_);first|refine Go.Sx.cS [0] cR ?_|refine Go.Sx.cS [0] cF ?_|refine Go.Sx.cP cP ?_|refine Go.Sx.cS [0] cw ?_)|(refine sxZ ?_;try clear hK K)|refine sxW ?_ ?_<;>intro _|(intro K hK _;(conv=>whnf))
   all_goals rfl
  have hall:=hall rfl rfl rfl
  by_cases h0:t0<0
  iterate 2
   ·repeat' first|(intro K hK;(with_reducible refine gC ?_);first|refine Go.Sx.cS [0] cR ?_|refine Go.Sx.cS [0] cF ?_|refine Go.Sx.cP cP ?_|refine Go.Sx.cS [0] cw ?_)|(refine sxZ ?_;try clear hK K)|refine sxW ?_ ?_<;>intro _|(intro K hK _;(conv=>whnf))
    all_goals first | rfl | (exfalso;omega)
 obtain ⟨hr,hfw,hp,h0,h7⟩:=hall
 rw [hr] at cR
 rw [hfw] at cF
 rw [decide_eq_true hp] at cP
 have hin:Cm.In t:=⟨hp.1,hp.2.1,hp.2.2.1,hp.2.2.2⟩
 have hxf:=Po.right_fits' hr
 obtain ⟨hn,hout,hce,hcn⟩:=Tr.ans_facts sw x hfw
 have hak:=Cm.ans_ok sw x
 have cC:=fun G a b (h:Po.At G x a b)=>table32_c G x a b sw 300 hs h hce hcn hn hout
 have hans:Tr.ans sw x=(Tr.all sw x,0):=by unfold Tr.ans;rw [if_pos hr]
 rw [hans] at cC hn hout hak
 dsimp only at cC hn hout hak
 obtain ⟨_,hn2,_,_,hout2⟩:=Tr.all_facts sw x hr hfw
 have ht:∀ f,Tr.ok f→0≤Tr.gt f t:=fun f hf=>by
  rcases Tr.ok5 hf with rfl | rfl | rfl | rfl | rfl
  ·exact hin.p0.1
  ·exact hin.p1.1
  ·exact hin.p2.1
  ·exact hin.p3.1
  ·exact h0
 obtain ⟨c,hfind,hnd,hmem⟩:=Tr.found_runs sw x hxf t ht
 have hcm:=List.mem_of_find?_eq_some hfind
 have hR64:=Po.runs_64 sw x hr t
 have cN:=fun G a b (h:Po.At G x a b)=>Run27_c G x a b sw t (by omega) hxf (by omega) h
 obtain ⟨hb1,hb2⟩:=Cm.both_eq hnd (Po.runs_rising sw t _ x (Nat.le_refl _)) hmem
 have cm:=fun G (h:F.le G)=>mine27_c _ G x pu u (Nat.le_refl _) (by omega) (Po.At.mono h hx)
 obtain ⟨t1,t2,_,_⟩:=Cm.tbl_facts (e:=0) (room:=300) hn hak
 have htb:Cm.tbl (Tr.all sw x) 0 300=if Cm.scan (Tr.all sw x)≠0 then ([],Cm.scan (Tr.all sw x)) else (Cm.rules (Tr.all sw x).length 0 (Tr.all sw x),0):=by
  unfold Cm.tbl
  rw [if_neg (by simp)]
  split
  ·rfl
  ·rw [if_neg (by omega)]
 by_cases hsc:Cm.scan (Tr.all sw x)=0
 rotate_left
 ·have he:=Cm.scan_err (Tr.all sw x)
  rw [htb,if_pos hsc] at cC
  generalize Cm.scan (Tr.all sw x)=e at *
  have cm:=cm F F.le_refl
  clear hx t2 cN
  obtain ⟨k,⟨pk,pf,pv,pl⟩,a,v,l⟩:=x
  obtain ⟨t0,t1',t2',t3,t4⟩:=t
  simp only [po_cs,Po.Lays,Cm.GivesT,Po.T.l,Po.T.p,Pd.T.k,Pd.T.f,Pd.T.v,Pd.T.l] at *
  refine ncall_of Tryz.func3 rfl (by decide) ?_
  rcases he with he | rfl | rfl
  ·exact absurd he hsc
  all_goals
   repeat' first|(intro K hK;(with_reducible refine gC ?_);first|refine Go.Sx.cS [0] cR ?_|refine Go.Sx.cS [0] cF ?_|refine Go.Sx.cP cP ?_|(refine Go.Sx.cN [0] cm ?_;rintro _ _ ⟨F1,a1,u1,hle1,hu1,rfl,rfl⟩;refine Go.Sx.cR ?_)|(refine Go.Sx.cN [0] (cC F1 a1 u1 hu1) ?_;rintro _ _ ⟨F2,w,hle2,hw,hwo,rfl,rfl⟩;refine Go.Sx.cR ?_)|refine Go.Sx.cS [0] (cw F2 (hle1.trans hle2)) ?_)|(refine sxZ ?_;try clear hK K)|refine sxW ?_ ?_<;>intro _|(intro K hK _;(conv=>whnf))
   all_goals first | rfl | (exfalso;omega)
 rw [htb,if_neg (by simpa using hsc)] at cC t1 t2
 have hca:=Cm.scan_all hsc c hcm
 have hok9:=hak c hcm
 obtain ⟨kk,hfr⟩:=Cm.find_rules hin (Tr.all sw x).length (Tr.all sw x) 0 (fun c hc=>(hak c hc).1) c hfind
 have hport:c.s.port = -1∨c.s.port=t.port:=by
  have h:=List.find?_some hfind
  have h2:=of_decide_eq_true h 4 (by decide)
  exact h2
 have hrun:=Cm.run_acts (t:=t) hca hok9.2 hport
 dsimp only at t1 t2
 have cT:=fun G v (h:Cm.Row G v (Cm.rules (Tr.all sw x).length 0 (Tr.all sw x)))=>runR_c G t hin v _ h (fun y hy=>(t2 y hy).2.2.1) (by omega) _ hfr (by
  have:=(Cm.acts_ok hok9.1 hok9.2).1
  show (Cm.acts c).1.length≤1000
  omega)
 rw [show (Ac.run (Cm.p4 t) (Cm.rule (Tr.all sw x).length kk c).acts).map Cm.toS=c.out.map (Tr.sub t) from hrun] at cT
 generalize c.out.map (Tr.sub t)=L at *
 have hRle:(Po.runs sw x t).length≤1000:=by omega
 generalize Po.runs sw x t=R at *
 have cS:=fun G z z' (h:Po.SRow G z R) (h':Po.SRow G z' R)=>sent27_c G z z' R R h h' (by omega) (by omega)
 rw [show decide (R=R)=true by simp] at cS
 generalize Cm.rules (Tr.all sw x).length 0 (Tr.all sw x)=TT at *
 have hbt:=fun (k:Nat) (h:k<L.length)=>Po.both_take [] h
 have hbl:=fun (k:Nat)=>Po.both_len (L.take k) []
 have hb0:Po.both [] (L.take 0)=[]:=rfl
 have hbe:Po.both [] (L.take L.length)=R:=by rw [List.take_length];exact hb1
 have hLl:L.length≤1000:=by omega
 have hAm:=fun (G G':Heap) (a b:Value) (h:G.le G') (h2:Po.At G x a b)=>Po.At.mono h h2
 generalize hB:(fun k=>Po.both [] (L.take k))=B
 have hB2:∀ k,Po.both [] (L.take k)=B k:=fun k=>by rw [← hB]
 simp only [hB2] at hbt hbl hb0 hbe
 clear hr hfw hp hin hxf hce hcn hout hak hans hout2 ht hfind hnd hmem hcm hfr hport hrun hok9 hca htb hb1 hB hB2 t2
 obtain ⟨k,⟨pk,pf,pv,pl⟩,a,v,l⟩:=x
 obtain ⟨t0,t1',t2',t3,t4⟩:=t
 simp only [po_cs,Po.Lays,Cm.GivesT,Po.T.l,Po.T.p,Pd.T.k,Pd.T.f,Pd.T.v,Pd.T.l] at *
 have cm0:=cm F F.le_refl
 refine ncall_of Tryz.func3 rfl (by decide) ?_
 repeat' first|(intro K hK;(with_reducible refine gC ?_);first|refine Go.Sx.cS [0] cR ?_|refine Go.Sx.cS [0] cF ?_|refine Go.Sx.cP cP ?_|(refine Go.Sx.cN [0] cm0 ?_;rintro _ _ ⟨F1,a1,u1,hle1,hu1,rfl,rfl⟩;refine Go.Sx.cR ?_)|(refine Go.Sx.cN [0] (cC F1 a1 u1 hu1) ?_;rintro _ _ ⟨F2,w,hle2,hw,hwo,rfl,rfl⟩;refine Go.Sx.cR ?_)|(refine Go.Sx.cN [0] (cT F2 w hw) ?_;rintro _ _ ⟨F3,w3,hle3,hw3,rfl,rfl⟩;refine Go.Sx.cR ?_))|(refine sxZ ?_;try clear hK K)|refine sxW ?_ ?_<;>intro _|(intro K hK _;(conv=>whnf))
 all_goals try (exfalso;omega)
 have hw3o:=hw3.ok
 refine st_auto (α:=Heap × Value × Nat) (fun (G,v,i)=>i≤L.length∧F3.le G∧Po.SRow G v (B i)) (fun (G,v,i)=>[.keep,.keep,.keep,.keep,.keep,.keep,.keep,.keep,.keep,.keep,.keep,.keep,.set (.hs v (B i).length),.set (.int .i64 i),.keep,.keep,.keep,.keep,.keep,.keep,.keep,.keep,.keep,.keep,.keep,.keep,.keep,.keep,.keep,.keep,.keep,.keep,.keep,.keep,.keep,.keep,.keep,.keep,.keep,.keep,.keep,.keep,.keep,.keep,.keep,.keep,.keep,.keep,.keep,.keep,.keep,.keep,.keep,.keep,.keep,.keep,.keep,.keep,.drop,.drop,.drop,.drop,.drop,.drop,.drop,.drop,.drop,.drop,.drop,.drop,.keep,.keep,.keep,.keep,.keep,.keep,.keep,.keep,.keep,.keep,.keep,.keep,.keep,.keep,.keep,.keep,.keep,.keep]) (fun (G,v,i)=>[.set (hpB G),.keep,.keep]) (fun (G,v,i)=>L.length - i) (F3,.slice none 0 0,0) ⟨Nat.zero_le _,F3.le_refl,by rw [hb0];exact RowF.nil⟩ ?_ ?_ ?_
 ·dsimp only
  rw [hb0]
  repeat (first | exact FitsSl.nil | refine FitsSl.any ?_ | refine FitsSl.cons (Fit1.nilhs (by  rfl)) ?_ | refine FitsSl.cons (Fit1.int (by first | rfl | omega)) ?_ | refine FitsSl.cons (Fit1.bool rfl) ?_ | refine FitsSl.cons (Fit1.str rfl) ?_ | refine FitsSl.cons (Fit1.same (by intro h;cases h) (by with_reducible rfl)) ?_ | refine FitsSl.cons Fit1.nil_sl ?_ | refine FitsSl.cons (Fit1.hs rfl) ?_ | refine FitsSl.cons (Fit1.hp rfl rfl) ?_ | refine FitsSl.cons (Fit1.sl rfl) ?_ | refine FitsSl.cons (Fit1.ptr rfl rfl) ?_ | refine FitsSl.cons Fit1.raw ?_)
 ·exact MemFits.congr rfl
 (intro ⟨G,v9,i⟩ ⟨hi,hle4,hv9⟩;intro K hK;(conv=>whnf);refine hK _ _ ?_;clear hK K)
 dsimp only at hi hle4 hv9 ⊢
 have hv9o:=hv9.ok
 by_cases hlt:i<L.length
 ·obtain ⟨g0,g1,g2,g3,g4⟩:=RowF.get5 (f0:=fun s:Po.S=>.int .i64 s.port) (f1:=fun s=>.int .i64 s.p0) (f2:=fun s=>.int .i64 s.p1) (f3:=fun s=>.int .i64 s.p2) (f4:=fun s=>.int .i64 s.p3) (Tr.srow_mono hle4 hw3) hlt
  have hnx:=hbt i hlt
  have hbi:=hbl i
  rw [List.length_take] at hbi
  simp only [List.length_nil] at hbi
  have cp:=put27_c G v9 (B i) L[i] (by omega) hv9
  rw [← hnx] at cp
  clear cN cS cC cT cm hnx
  generalize L[i]=y at *
  generalize B i=bi at *
  generalize hBn:B (i+1)=bn at *
  obtain ⟨y0,y1,y2,y3,y4⟩:=y
  simp only [Po.S.av] at *
  repeat' first|(intro K hK;(with_reducible refine gC ?_);(refine Go.Sx.cN [0] cp ?_;rintro _ _ ⟨G5,v5,h5,h6,rfl,rfl⟩;refine Go.Sx.cR ?_))|(refine sxZ ?_;try clear hK K)|refine sxW ?_ ?_<;>intro _|(intro K hK _;(conv=>whnf))
  all_goals try (exfalso;omega)
  all_goals
   refine st_round (G5,v5,i+1) ⟨hlt,hle4.trans h5,by rw [hBn];exact h6⟩ (by show L.length - (i+1)<L.length - i;omega) ?_ (MemFits.congr rfl)
   dsimp only
   rw [hBn]
   exact fitsGo
 ·obtain rfl:i=L.length:=by omega
  rw [hbe] at hv9 hv9o ⊢
  have hG:F.le G:=((hle1.trans hle2).trans hle3).trans hle4
  have cm9:=cm G hG
  clear hbt hbl hb0 hbe cm cC cT
  repeat' first|((try intro K hK);(with_reducible refine gC ?_);first|(refine Go.Sx.cN [0] cm9 ?_;rintro _ _ ⟨G5,a5,u5,h5,hu5,rfl,rfl⟩;refine Go.Sx.cR ?_)|(refine Go.Sx.cN [0] (cN G5 a5 u5 hu5) ?_;rintro _ _ ⟨G6,v6,h6,hv6,rfl,rfl⟩;refine Go.Sx.cR ?_)|refine Go.Sx.cS [0] (cS G6 v9 v6 (Tr.srow_mono (h5.trans h6) hv9) hv6) ?_|refine Go.Sx.cS [0] (cw G6 ((hG.trans h5).trans h6)) ?_)|((first|intro A B hA hB|intro K hK|skip);first|((with_reducible refine NIf.yes ?s ?_);(case s=>simp [hb2];done);(conv=>whnf))|((with_reducible refine NIf.no ?s ?_);(case s=>simp [hb2];done);(conv=>whnf)))|(refine sxZK [0] ?_;(try clear hK K);try clear hA hB A B)|refine sxW ?_ ?_<;>intro _|refine sxVK ?_ ?_|(intro K hK _;(conv=>whnf))
  all_goals first | rfl | (exfalso;omega)
end Go.Proofs.YtmehinfgdcmmjaaGreatDoor
namespace Go.Proofs.YtmehinfgdcmmjaaGreatDoor
open Go.Sx Go.RowKit Go.ChangeShapes Go.WideShapes
set_option maxRecDepth 20000
set_option linter.unusedVariables false
theorem fit64 {x:Int} (h:(Lit.int .i64 x).wf=true) : -9223372036854775808≤x∧x≤9223372036854775807:=by
 have e1:IntKind.i64.min = -9223372036854775808:=by decide
 have e2:IntKind.i64.max=9223372036854775807:=by decide
 simp only [Lit.wf,e1,e2,Bool.and_eq_true,decide_eq_true_eq] at h
 exact h
theorem bulk_le {H:Type}:∀ (l:List Pd.T) (es:List (DataW H × List MemPlace)),l.length=es.length→(∀ (i:Nat) (p:Pd.T) (e:DataW H × List MemPlace),l[i]?=some p→es[i]?=some e→Pd.size p≤Rows.uptoBulk e.1)→Pd.sizeL l≤Rows.uptoBulkAll (es.map (·.1))
 | [],_,_,_=>by rw [Pd.sizeL];exact Nat.zero_le _
 | p::l,[],h,_=>by simp at h
 | p::l,e::es,h,hi=>by
  have h1:=hi 0 p e rfl rfl
  have h2:=bulk_le l es (by simpa using h) fun i q f hq hf=>hi (i+1) q f (by simpa using hq) (by simpa using hf)
  rw [Pd.sizeL,List.map_cons,Rows.uptoBulkAll]
  omega
section
variable {H:Type} {enc:TypeId × Value→H} {W:World} {spare:Nat→Bool} {held:Bool}
theorem open26 (t tS:TypeId) (fs:Array Field) (hT:Tryz.prog.underlying t=some (.struct fs)) (hS:Tryz.prog.underlying tS=some (.slice t)) (ti:TypeId) (hI:Tryz.prog.underlying ti=some (.int .i64))
  (hfs:fs.toList.map (fun f=>(f.type,f.offset))=[(ti,0),(ti,1),(ti,2),(tS,3)]) (hc:Tryz.prog.cellsOf t=4) (hci:Tryz.prog.cellsOf ti=1) (hcs:Tryz.prog.cellsOf tS=1) :
  ∀ (N fuel:Nat) (cs:List Value) (x:DataW H × List MemPlace),fuel≤N→DataW.trod enc Tryz.prog W 0 spare held fuel t cs=some x→∃ p:Pd.T,Pd.R (cellsW W) p cs∧Pd.in64 p∧Pd.size p≤Rows.uptoBulk x.1
 | 0,fuel,cs,x,hN,hx=>by
  obtain ⟨xs,n,h1,_⟩:=DataW.trod_struct hT hx
  omega
 | N+1,fuel,cs,x,hN,hx=>by
  obtain ⟨xs,n,h1,h2,hlen,hxl,hf⟩:=DataW.trod_struct hT hx
  have hfs4:fs.size=4:=by have:=congrArg List.length hfs;simpa using this
  have hat:∀ i (hi:i<4),∃ f,fs[i]?=some f∧(f.type,f.offset)=[(ti,0),(ti,1),(ti,2),(tS,3)][i]:=fun i hi=>by
   have hi':i<fs.size:=by omega
   refine ⟨fs[i],Array.getElem?_eq_getElem hi',?_⟩
   have:=congrArg (fun l=>l[i]?) hfs
   simp only [List.getElem?_map,Array.getElem?_toList,Array.getElem?_eq_getElem hi',Option.map_some,List.getElem?_eq_getElem (show i<[(ti,0),(ti,1),(ti,2),(tS,3)].length by simpa using hi),Option.some.injEq] at this
   exact this
  match cs,(hlen.trans hc) with
  | [c0,c1,c2,c3],_ =>
   match xs,(hxl.trans hfs4) with
   | [x0,x1,x2,x3],_ =>
    obtain ⟨f0,g0,e0⟩:=hat 0 (by decide)
    obtain ⟨f1,g1,e1⟩:=hat 1 (by decide)
    obtain ⟨f2,g2,e2⟩:=hat 2 (by decide)
    obtain ⟨f3,g3,e3⟩:=hat 3 (by decide)
    simp only [List.getElem_cons_zero,List.getElem_cons_succ,Prod.mk.injEq] at e0 e1 e2 e3
    have t0:=hf 0 f0 g0
    have t1:=hf 1 f1 g1
    have t2:=hf 2 f2 g2
    have t3:=hf 3 f3 g3
    rw [e0.1,e0.2,hci] at t0
    rw [e1.1,e1.2,hci] at t1
    rw [e2.1,e2.2,hci] at t2
    rw [e3.1,e3.2,hcs] at t3
    simp only [List.drop_zero,List.take_succ_cons,List.take_zero,List.drop_succ_cons,List.getElem?_cons_zero,List.getElem?_cons_succ] at t0 t1 t2 t3
    obtain ⟨k,ek,_,wk⟩:=DataW.trod_int hI t0
    obtain ⟨a,ea,_,wa⟩:=DataW.trod_int hI t1
    obtain ⟨v,ev,_,wv⟩:=DataW.trod_int hI t2
    cases ek
    cases ea
    cases ev
    rcases DataW.trod_slice hS t3 with ⟨es,_⟩ | ⟨b,len,cap,elems,rest,n',hn',es,ex3,_,hl,hm,hel,hat',_⟩
    ·cases es
     refine ⟨.mk k a v [],Pd.R.of (p:=.mk k a v []) (A:=none) (cap:=0) RowF.nil,by simp only [Pd.in64,Pd.in64L,and_true];exact ⟨fit64 wk,fit64 wa,fit64 wv⟩,?_⟩
     rw [Pd.size,Pd.sizeL,h2]
     simp only [Rows.uptoBulk]
     omega
    ·cases es
     have hel2:∀ i,i<len→∃ p:Pd.T,(∃ cs',cs'.length=4∧CellsF (cellsW W) b (i*4) cs'∧Pd.R (cellsW W) p cs')∧Pd.in64 p∧∀ e,elems[i]?=some e→Pd.size p≤Rows.uptoBulk e.1:=fun i hi=>by
      have h1:=hat' i hi
      rw [List.getElem?_eq_getElem (by omega),Option.bind_eq_some_iff] at h1
      obtain ⟨cs',h3,h4⟩:=h1
      obtain ⟨p,h5,h6,h7⟩:=open26 t tS fs hT hS ti hI hfs hc hci hcs N n' cs' _ (by omega) h4
      obtain ⟨_,h8,h9⟩:=World.cells?_some h3
      rw [hc] at h8 h9
      refine ⟨p,⟨cs',by omega,cellsF_of cs' _ fun j u hj=>?_,h5⟩,h6,fun e he=>?_⟩
      ·have:=h9 j (by have:=(List.getElem?_eq_some_iff.1 hj).1;omega)
       rw [add_of_add] at this
       exact this.trans hj
      ·rw [List.getElem?_eq_getElem (by omega)] at he
       cases he
       exact h7
     obtain ⟨l,hll,hl2⟩:=list_of hel2
     subst hll
     have hrow:Pd.Row (cellsW W) (.slice (some b) l.length cap) l:=⟨⟨some b,cap,rfl,hl,by simp⟩,fun i p hp=>by
      obtain ⟨⟨cs',h3,h4,h5⟩,_⟩:=hl2 i p hp
      exact ⟨cs',h5,h3,h4⟩⟩
     refine ⟨.mk k a v l,Pd.R.of (p:=.mk k a v l) (A:=some b) (cap:=cap) hrow,?_,?_⟩
     ·simp only [Pd.in64,Pd.in64L_iff]
      refine ⟨⟨fit64 wk,fit64 wa,fit64 wv⟩,fun p hp=>?_⟩
      obtain ⟨i,hi⟩:=List.getElem?_of_mem hp
      exact (hl2 i p hi).2.1
     ·have hb:=bulk_le l elems hel.symm fun i p e hp he=>(hl2 i p hp).2.2 e he
      have e3':x3.1 = .slice (elems.map (·.1)) (rest.map (·.1)):=by rw [ex3]
      rw [Pd.size,h2]
      simp only [List.map_cons,List.map_nil,Rows.uptoBulk,Rows.uptoBulkAll,e3']
      omega
end
end Go.Proofs.YtmehinfgdcmmjaaGreatDoor
namespace Go.Proofs.YtmehinfgdcmmjaaGreatDoor
open Go.Sx Go.RowKit Go.ChangeShapes Go.WideShapes
set_option maxRecDepth 20000
set_option linter.unusedVariables false
theorem bulk27_le {H:Type}:∀ (l:List Po.T) (es:List (DataW H × List MemPlace)),l.length=es.length→(∀ (i:Nat) (p:Po.T) (e:DataW H × List MemPlace),l[i]?=some p→es[i]?=some e→Po.tot p≤Rows.uptoBulk e.1)→Po.totL l≤Rows.uptoBulkAll (es.map (·.1))
 | [],_,_,_=>by rw [Po.totL];exact Nat.zero_le _
 | p::l,[],h,_=>by simp at h
 | p::l,e::es,h,hi=>by
  have h1:=hi 0 p e rfl rfl
  have h2:=bulk27_le l es (by simpa using h) fun i q f hq hf=>hi (i+1) q f (by simpa using hq) (by simpa using hf)
  rw [Po.totL,List.map_cons,Rows.uptoBulkAll]
  omega
mutual
def Po.in64:Po.T→Prop
 | .mk k p f v l=>((-9223372036854775808≤k∧k≤9223372036854775807)∧(-9223372036854775808≤f∧f≤9223372036854775807)∧(-9223372036854775808≤v∧v≤9223372036854775807))∧Pd.in64 p∧Po.in64L l
def Po.in64L:List Po.T→Prop
 | []=>True
 | x::l=>Po.in64 x∧Po.in64L l
end
theorem Po.in64L_iff (l:List Po.T):Po.in64L l↔∀ p∈l,Po.in64 p:=by
 induction l with
 | nil=>simp [Po.in64L]
 | cons p l ih=>simp only [Po.in64L,ih,List.mem_cons,forall_eq_or_imp]
section
variable {H:Type} {enc:TypeId × Value→H} {W:World} {spare:Nat→Bool} {held:Bool}
theorem open27 (t tS:TypeId) (fs:Array Field) (hT:Tryz.prog.underlying t=some (.struct fs)) (hS:Tryz.prog.underlying tS=some (.slice t)) (ti:TypeId) (hI:Tryz.prog.underlying ti=some (.int .i64))
  (tP:TypeId) (hP:∀ (fuel:Nat) (cs:List Value) (x:DataW H × List MemPlace),DataW.trod enc Tryz.prog W 0 spare held fuel tP cs=some x→∃ p:Pd.T,Pd.R (cellsW W) p cs∧Pd.in64 p∧Pd.size p≤Rows.uptoBulk x.1)
  (hfs:fs.toList.map (fun f=>(f.type,f.offset))=[(ti,0),(tP,1),(ti,5),(ti,6),(tS,7)]) (hc:Tryz.prog.cellsOf t=8) (hci:Tryz.prog.cellsOf ti=1) (hcp:Tryz.prog.cellsOf tP=4) (hcs:Tryz.prog.cellsOf tS=1) :
  ∀ (N fuel:Nat) (cs:List Value) (x:DataW H × List MemPlace),fuel≤N→DataW.trod enc Tryz.prog W 0 spare held fuel t cs=some x→∃ p:Po.T,Po.R (cellsW W) p cs∧Po.in64 p∧Po.tot p≤Rows.uptoBulk x.1
 | 0,fuel,cs,x,hN,hx=>by
  obtain ⟨xs,n,h1,_⟩:=DataW.trod_struct hT hx
  omega
 | N+1,fuel,cs,x,hN,hx=>by
  obtain ⟨xs,n,h1,h2,hlen,hxl,hf⟩:=DataW.trod_struct hT hx
  have hfs4:fs.size=5:=by have:=congrArg List.length hfs;simpa using this
  have hat:∀ i (hi:i<5),∃ f,fs[i]?=some f∧(f.type,f.offset)=[(ti,0),(tP,1),(ti,5),(ti,6),(tS,7)][i]:=fun i hi=>by
   have hi':i<fs.size:=by omega
   refine ⟨fs[i],Array.getElem?_eq_getElem hi',?_⟩
   have:=congrArg (fun l=>l[i]?) hfs
   simp only [List.getElem?_map,Array.getElem?_toList,Array.getElem?_eq_getElem hi',Option.map_some,List.getElem?_eq_getElem (show i<[(ti,0),(tP,1),(ti,5),(ti,6),(tS,7)].length by simpa using hi),Option.some.injEq] at this
   exact this
  match cs,(hlen.trans hc) with
  | [c0,c1,c2,c3,c4,c5,c6,c7],_ =>
   match xs,(hxl.trans hfs4) with
   | [x0,x1,x2,x3,x4],_ =>
    obtain ⟨f0,g0,e0⟩:=hat 0 (by decide)
    obtain ⟨f1,g1,e1⟩:=hat 1 (by decide)
    obtain ⟨f2,g2,e2⟩:=hat 2 (by decide)
    obtain ⟨f3,g3,e3⟩:=hat 3 (by decide)
    obtain ⟨f4,g4,e4⟩:=hat 4 (by decide)
    simp only [List.getElem_cons_zero,List.getElem_cons_succ,Prod.mk.injEq] at e0 e1 e2 e3 e4
    have t0:=hf 0 f0 g0
    have t1:=hf 1 f1 g1
    have t2:=hf 2 f2 g2
    have t3:=hf 3 f3 g3
    have t4:=hf 4 f4 g4
    rw [e0.1,e0.2,hci] at t0
    rw [e1.1,e1.2,hcp] at t1
    rw [e2.1,e2.2,hci] at t2
    rw [e3.1,e3.2,hci] at t3
    rw [e4.1,e4.2,hcs] at t4
    simp only [List.drop_zero,List.take_succ_cons,List.take_zero,List.drop_succ_cons,List.getElem?_cons_zero,List.getElem?_cons_succ] at t0 t1 t2 t3 t4
    obtain ⟨k,ek,_,wk⟩:=DataW.trod_int hI t0
    obtain ⟨q,hq,hqi,hqs⟩:=hP _ _ _ t1
    obtain ⟨a,ea,_,wa⟩:=DataW.trod_int hI t2
    obtain ⟨v,ev,_,wv⟩:=DataW.trod_int hI t3
    cases ek
    cases ea
    cases ev
    obtain ⟨pA,pcap,hprow,hpe⟩:=hq.inv
    cases hpe
    rcases DataW.trod_slice hS t4 with ⟨es,_⟩ | ⟨b,len,cap,elems,rest,n',hn',es,ex3,_,hl,hm,hel,hat',_⟩
    ·cases es
     refine ⟨.mk k q a v [],Po.R.of (x:=.mk k q a v []) (A:=none) (cap:=0) ⟨hprow,RowF.nil⟩,by simp only [Po.in64,Po.in64L,and_true];exact ⟨⟨fit64 wk,fit64 wa,fit64 wv⟩,hqi⟩,?_⟩
     rw [Po.tot_mk,Po.totL,h2]
     simp only [List.map_cons,List.map_nil,Rows.uptoBulk,Rows.uptoBulkAll]
     omega
    ·cases es
     have hel2:∀ i,i<len→∃ p:Po.T,(∃ cs',cs'.length=8∧CellsF (cellsW W) b (i*8) cs'∧Po.R (cellsW W) p cs')∧Po.in64 p∧∀ e,elems[i]?=some e→Po.tot p≤Rows.uptoBulk e.1:=fun i hi=>by
      have h1:=hat' i hi
      rw [List.getElem?_eq_getElem (by omega),Option.bind_eq_some_iff] at h1
      obtain ⟨cs',h3,h4⟩:=h1
      obtain ⟨p,h5,h6,h7⟩:=open27 t tS fs hT hS ti hI tP hP hfs hc hci hcp hcs N n' cs' _ (by omega) h4
      obtain ⟨_,h8,h9⟩:=World.cells?_some h3
      rw [hc] at h8 h9
      refine ⟨p,⟨cs',by omega,cellsF_of cs' _ fun j u hj=>?_,h5⟩,h6,fun e he=>?_⟩
      ·have:=h9 j (by have:=(List.getElem?_eq_some_iff.1 hj).1;omega)
       rw [add_of_add] at this
       exact this.trans hj
      ·rw [List.getElem?_eq_getElem (by omega)] at he
       cases he
       exact h7
     obtain ⟨l,hll,hl2⟩:=list_of hel2
     subst hll
     have hrow:Po.Row (cellsW W) (.slice (some b) l.length cap) l:=⟨⟨some b,cap,rfl,hl,by simp⟩,fun i p hp=>by
      obtain ⟨⟨cs',h3,h4,h5⟩,_⟩:=hl2 i p hp
      exact ⟨cs',h5,h3,h4⟩⟩
     refine ⟨.mk k q a v l,Po.R.of (x:=.mk k q a v l) (A:=some b) (cap:=cap) ⟨hprow,hrow⟩,?_,?_⟩
     ·simp only [Po.in64,Po.in64L_iff]
      refine ⟨⟨fit64 wk,fit64 wa,fit64 wv⟩,hqi,fun p hp=>?_⟩
      obtain ⟨i,hi⟩:=List.getElem?_of_mem hp
      exact (hl2 i p hi).2.1
     ·have hb:=bulk27_le l elems hel.symm fun i p e hp he=>(hl2 i p hp).2.2 e he
      have e4':x4.1 = .slice (elems.map (·.1)) (rest.map (·.1)):=by rw [ex3]
      rw [Po.tot_mk,h2]
      simp only [List.map_cons,List.map_nil,Rows.uptoBulk,Rows.uptoBulkAll,e4']
      omega
end
end Go.Proofs.YtmehinfgdcmmjaaGreatDoor
