/- A part of the proof. -/
import Derived.Test.YtmehinfgdcmmjaaGreatDoorTJ21
import Derived.Test.YtmehinfgdcmmjaaGreatDoorTJ26
namespace Go.Proofs.YtmehinfgdcmmjaaGreatDoor
open Go.Sx
set_option maxRecDepth 20000
set_option linter.unusedSimpArgs false
set_option linter.unusedVariables false
set_option maxHeartbeats 4000000
namespace Cm
def refC (n p a0 a1 a2 a3:Int) (v:AV) (j:Nat):List AV:=[.int .i64 n,.int .i64 p,.int .i64 (if 0<j then vf a0 else 0),.int .i64 (if 1<j then vf a1 else 0),.int .i64 (if 2<j then vf a2 else 0),.int .i64 (if 3<j then vf a3 else 0),
 .int .i64 (if 0<j then mf 0 a0 else 0),.int .i64 (if 1<j then mf 1 a1 else 0),.int .i64 (if 2<j then mf 2 a2 else 0),.int .i64 (if 3<j then mf 3 a3 else 0),v]
theorem refC_1 (n p a0 a1 a2 a3:Int) (v:AV):refC n p a0 a1 a2 a3 v 1=[.int .i64 n,.int .i64 p,.int .i64 (vf a0),.int .i64 0,.int .i64 0,.int .i64 0,.int .i64 (mf 0 a0),.int .i64 0,.int .i64 0,.int .i64 0,v]:=rfl
theorem refC_2 (n p a0 a1 a2 a3:Int) (v:AV):refC n p a0 a1 a2 a3 v 2=[.int .i64 n,.int .i64 p,.int .i64 (vf a0),.int .i64 (vf a1),.int .i64 0,.int .i64 0,.int .i64 (mf 0 a0),.int .i64 (mf 1 a1),.int .i64 0,.int .i64 0,v]:=rfl
theorem refC_3 (n p a0 a1 a2 a3:Int) (v:AV):refC n p a0 a1 a2 a3 v 3=[.int .i64 n,.int .i64 p,.int .i64 (vf a0),.int .i64 (vf a1),.int .i64 (vf a2),.int .i64 0,.int .i64 (mf 0 a0),.int .i64 (mf 1 a1),.int .i64 (mf 2 a2),.int .i64 0,v]:=rfl
theorem refC_4 (n p a0 a1 a2 a3:Int) (v:AV):refC n p a0 a1 a2 a3 v 4=[.int .i64 n,.int .i64 p,.int .i64 (vf a0),.int .i64 (vf a1),.int .i64 (vf a2),.int .i64 (vf a3),.int .i64 (mf 0 a0),.int .i64 (mf 1 a1),.int .i64 (mf 2 a2),.int .i64 (mf 3 a3),v]:=rfl
theorem mt_eq {s:Po.S} (h:s.port = -1∨0≤s.port):mt s=⟨s.port,vf s.p0,vf s.p1,vf s.p2,vf s.p3,mf 0 s.p0,mf 1 s.p1,mf 2 s.p2,mf 3 s.p3⟩:=by
 unfold mt
 rcases h with h | h
 ·rw [if_neg (by omega),h]
 ·rw [if_pos h]
def kn (s:Po.S):Prop:=(s.port = -1∨0≤s.port)∧(s.p0 = -1∨0≤s.p0)∧(s.p1 = -1∨0≤s.p1)∧(s.p2 = -1∨0≤s.p2)∧(s.p3 = -1∨0≤s.p3)
theorem okS.kn {s:Po.S} (h:okS s):kn s:=by
 have k:∀ {v t:Int},v = -1∨(0≤v∧v≤t)→v = -1∨0≤v:=fun h=>h.imp_right (·.1)
 exact ⟨k (h 4 (by decide)),k (h 0 (by decide)),k (h 1 (by decide)),k (h 2 (by decide)),k (h 3 (by decide))⟩
end Cm
theorem ip (F:Heap) (x:Po.T) (pu u:Value) (sw room:Int) (hs:Po.tot x≤1000000000) (hx:Po.At F x pu u) (hce:Po.right x=true→Po.cells (Po.spec sw x)≤4096) (hc:Po.right x=true→Tr.cnt (Po.spec sw x) Tr.order≤1000000) (hn:(Tr.ans sw x).1.length≤1000) (ho:∀ c∈(Tr.ans sw x).1,c.out.length≤1000) (hkn:∀ c∈(Tr.ans sw x).1,Cm.kn c.s) :
  Qz Tryz.prog 15 [.agg (Po.cs x pu u),.int .i64 sw,.int .i64 room] [hpB F] fun r m=>Cm.GivesT F (Cm.tbl (Tr.ans sw x).1 (Tr.ans sw x).2 room) r m:=by
 refine Cm.givesT_know (t:=75) ?_
 have hok:=hx.l.ok
 have hpok:=hx.p.ok
 have cC:=jL F x pu u sw hs hx hce hc
 have t0:Qz Tryz.prog 23 [.int .i64 0] [] fun r _=>r = .int .i64 (Mt.top 0):=reftop_c 0
 have t1:Qz Tryz.prog 23 [.int .i64 1] [] fun r _=>r = .int .i64 (Mt.top 1):=reftop_c 1
 have t2:Qz Tryz.prog 23 [.int .i64 2] [] fun r _=>r = .int .i64 (Mt.top 2):=reftop_c 2
 have t3:Qz Tryz.prog 23 [.int .i64 3] [] fun r _=>r = .int .i64 (Mt.top 3):=reftop_c 3
 generalize Tr.ans sw x=a at *
 obtain ⟨C,e⟩:=a
 dsimp only at *
 clear hx hce hc
 have cC:=cC.mono (K':=fun r m=>∃ F' v,F.le F'∧Tr.Row F' v C∧SlOk v C.length∧r = .tup [.hs v C.length,.int .i64 e]∧m=[hpB F']) fun r m ⟨F',v,h1,h2,h3,h4⟩=>⟨F',v,h1,h2,h2.ok,h3,h4⟩
 obtain ⟨k,⟨pk,pf,pv,pl⟩,a,v,l⟩:=x
 simp only [aY,Po.T.l,Po.T.p,Pd.T.k,Pd.T.f,Pd.T.v,Pd.T.l] at *
 refine aB Tryz.func15 rfl (by decide) ?_
 by_cases he:e=0
 rotate_left
 ·have ht:Cm.tbl C e room=([],e):=by unfold Cm.tbl;rw [if_pos he]
  rw [ht]
  repeat' first|(intro K hK;(with_reducible refine gC ?_);(refine cN [0] cC ?_;rintro _ _ ⟨F2,w,hle,hw,hwo,rfl,rfl⟩;refine cR ?_))|(refine sxZ ?_;try clear hK K)|refine sxW ?_ ?_<;>intro _|(intro K hK _;conv=>whnf)
  all_goals first | (exfalso;omega) | exact ⟨F2,.slice none 0 0,[],hle,rfl,fun p hp=>(by cases hp),rfl,(Qw.pre 1 rfl).trans (Qw.nilRow _ _ _)⟩
 subst he
 repeat' first|(intro K hK;(with_reducible refine gC ?_);(refine cN [0] cC ?_;rintro _ _ ⟨F2,w,hle,hw,hwo,rfl,rfl⟩;refine cR ?_))|(refine sxZ ?_;try clear hK K)|refine sxW ?_ ?_<;>intro _|(intro K hK _;conv=>whnf)
 all_goals try (exfalso;omega)
 refine aE (α:=Heap × Value × List Cm.L × Nat) (fun (G,v,ps,i)=>i≤C.length∧F2.le G∧ps.map (·.x)=Cm.rules C.length 0 (C.take i)∧(∀ p∈ps,Cm.ARow G p.v p.x.acts)∧Cm.scan (C.take i)=0) (fun (G,v,ps,i)=>[.k,.k,.k,.k,.k,.k,.d,.d,.k,.k,.set (.sl 2 v ps.length),.set (.int .i64 i),.d,.d,.d,.d,.k,.k,.k,.k,.k,.k,.k,.k,.k,.d,.d,.d,.d,.d,.d,.d,.d,.d,.d,.d,.d,.d,.d,.d,.d,.d,.d,.d,.d,.d,.d,.d,.d,.d,.d,.d,.d,.d,.d,.d,.d,.d,.d,.d,.d,.d,.d,.d,.d,.d,.d,.d,.d,.d,.d,.d,.d,.d,.d,.d,.d,.d,.d,.d,.d,.d,.d,.d,.d,.d,.d,.d,.k,.k,.k,.k,.k])
  (fun (G,v,ps,i)=>[.set (hpB G),.k,.set ⟨addrOf v,Cm.psC ps,.row v 75 11 ps.length⟩]) (fun (G,v,ps,i)=>C.length - i) (F2,.slice none 0 0,[],0) ⟨Nat.zero_le _,F2.le_refl,rfl,fun p hp=>(by cases hp),rfl⟩ ?_ ?_ ?_
 ·exact aD
 ·exact (Qw.nilRow _ 75 11).trans (Qw.congr rfl)
 (intro ⟨G,v,ps,i⟩ ⟨hi,hle2,hmap,hall,hsc⟩;intro K hK;(conv=>whnf);refine hK _ _ ?_;clear hK K)
 dsimp only at hi hle2 hmap hall hsc ⊢
 have hpl:ps.length=i:=by
  have:=congrArg List.length hmap
  rw [List.length_map,Cm.rules_len,List.length_take,Nat.min_eq_left hi] at this
  exact this
 by_cases hlt:i<C.length
 ·have hwG:=Tr.Row.mono hle2 hw
  obtain ⟨A,cap,hA,c0,c1,c2,c3,c4,c5⟩:=hwG.get (List.getElem?_eq_getElem hlt)
  have hol:=ho C[i] (List.getElem_mem hlt)
  have hk:=hkn C[i] (List.getElem_mem hlt)
  have ca:=jl G C[i] (.slice A C[i].out.length cap) hA hol
  simp only [Cm.Gives] at ca
  have hs1:=Cm.scan_at hlt hsc
  have hs2:=Cm.scan_next hlt hsc
  have hrn:=Cm.rules_next C.length C hlt
  have hpc:=Cm.psC_len ps
  have hnx:=fun q=>Cm.psC_next ps q
  rw [← hmap] at hrn
  by_cases hae:(Cm.acts C[i]).2=0
  ·have hs3:=hs2 hae
   clear hs2
   have ca:=ca.mono (K':=fun r m=>∃ G2 v,G.le G2∧Cm.ARow G2 v (Cm.acts C[i]).1∧SlOk v (Cm.acts C[i]).1.length∧(G2.c ((addrOf w).add (i*6)) (.int .i64 C[i].s.port)∧G2.c ((addrOf w).add (i*6+1)) (.int .i64 C[i].s.p0)∧G2.c ((addrOf w).add (i*6+2)) (.int .i64 C[i].s.p1)∧G2.c ((addrOf w).add (i*6+3)) (.int .i64 C[i].s.p2)∧G2.c ((addrOf w).add (i*6+4)) (.int .i64 C[i].s.p3))∧r = .tup [.hs v (Cm.acts C[i]).1.length,.int .i64 (Cm.acts C[i]).2]∧m=[hpB G2]) fun r m ⟨G2,v,h1,h2,h3,h4,h5⟩=>⟨G2,v,h1,h2,h3,⟨h1.c _ _ c0,h1.c _ _ c1,h1.c _ _ c2,h1.c _ _ c3,h1.c _ _ c4⟩,h4,h5⟩
   have ecs:∀ v:Value,(Cm.rule C.length i C[i]).cs v=Cm.refC ((C.length - i:Nat):Int) C[i].s.port C[i].s.p0 C[i].s.p1 C[i].s.p2 C[i].s.p3 (.hs v (Cm.acts C[i]).1.length) 4:=fun v=>by
    unfold Cm.rule Ru.R.cs
    rw [Cm.mt_eq hk.1,Cm.refC_4]
   have era:(Cm.rule C.length i C[i]).acts=(Cm.acts C[i]).1:=rfl
   have epr:((C.length - i:Nat):Int)=(C.length:Int) - i:=by omega
   rw [epr] at ecs
   obtain ⟨hk0,hk1,hk2,hk3,hk4⟩:=hk
   generalize Cm.rule C.length i C[i]=rl at *
   generalize C[i]=c at *
   generalize Cm.acts c=ac at *
   obtain ⟨al,ae⟩:=ac
   obtain ⟨⟨s0,s1,s2,s3,s4⟩,O⟩:=c
   dsimp only at *
   subst hae
   simp only [Tr.cs] at *
   generalize Cm.psC ps=pc at *
   repeat' first|(intro K hK;(with_reducible refine gC ?_);(refine cN [0] ca ?_;rintro _ _ ⟨G2,v2,h1,h2,h3,⟨d0,d1,d2,d3,d4⟩,rfl,rfl⟩;refine cR ?_))|(refine sxZ ?_;try clear hK K)|refine sxW ?_ ?_<;>intro _|(intro K hK _;conv=>whnf)
   all_goals try (exfalso;omega)
   have f0:Cm.refC ((C.length:Int) - i) s0 s1 s2 s3 s4 (.hs v2 al.length) 0=[.int .i64 ((C.length:Int) - i),.int .i64 s0,.int .i64 0,.int .i64 0,.int .i64 0,.int .i64 0,.int .i64 0,.int .i64 0,.int .i64 0,.int .i64 0,.hs v2 al.length]:=rfl
   have f1:=Cm.refC_1 ((C.length:Int) - i) s0 s1 s2 s3 s4 (.hs v2 al.length)
   have f2:=Cm.refC_2 ((C.length:Int) - i) s0 s1 s2 s3 s4 (.hs v2 al.length)
   have f3:=Cm.refC_3 ((C.length:Int) - i) s0 s1 s2 s3 s4 (.hs v2 al.length)
   have f4:=Cm.refC_4 ((C.length:Int) - i) s0 s1 s2 s3 s4 (.hs v2 al.length)
   have ecs:=ecs v2
   generalize Cm.refC ((C.length:Int) - i) s0 s1 s2 s3 s4 (.hs v2 al.length)=rc at *
   refine aE (α:=Nat) (fun j=>j≤4) (fun j=>[.k,.k,.k,.k,.k,.k,.k,.k,.k,.k,.k,.k,.k,.k,.k,.set (.int .i64 j),.k,.k,.k,.k,.k,.k,.k,.k,.k,.k,.k,.k,.k,.k,.k,.k,.k,.k,.k,.k,.k,.k,.k,.k,.k,.k,.k,.k,.k,.k,.k,.k,.k,.k,.k,.k,.k,.k,.k,.d,.d,.d,.d,.d,.d,.d,.d,.d,.d,.d,.d,.d,.d,.d,.d,.d,.d,.d,.d,.d,.d,.d,.d,.d,.d,.d,.d,.d,.k,.k,.k,.k,.k,.k,.k,.k,.k]) (fun j=>[.k,.k,.k,.cells (rc j)]) (fun j=>4 - j) 0 (Nat.zero_le _) ?_ ?_ ?_
   ·exact aD
   ·exact Qw.congr (by simp only [autoM,f0]<;>rfl)
   (intro j hj;intro K hK;(conv=>whnf);refine hK _ _ ?_;clear hK K)
   dsimp only at hj ⊢
   have hj5:j=0∨j=1∨j=2∨j=3∨j=4:=by omega
   rcases hj5 with rfl | rfl | rfl | rfl | rfl
   ·rw [f0]
    by_cases h9:0≤s1
    ·rw [Cm.vf_yes h9,Cm.mf_yes h9] at f1
     repeat' first|(intro K hK;(with_reducible refine gC ?_);refine cP t0 ?_)|(refine sxZ ?_;try clear hK K)|refine sxW ?_ ?_<;>intro _|(intro K hK _;conv=>whnf)
     all_goals try (exfalso;omega)
     all_goals
      refine aC 1 (by decide) (by decide) ?_ ?_
      ·exact aD
      ·exact Qw.congr (by simp only [autoM,f1]<;>rfl)
    ·rw [Cm.vf_no h9,Cm.mf_no h9] at f1
     repeat' first|(refine sxZ ?_;try clear hK K)|refine sxW ?_ ?_<;>intro _|(intro K hK _;conv=>whnf)
     all_goals try (exfalso;omega)
     all_goals
      refine aC 1 (by decide) (by decide) ?_ ?_
      ·exact aD
      ·exact Qw.congr (by simp only [autoM,f1]<;>rfl)
   ·rw [f1]
    by_cases h9:0≤s2
    ·rw [Cm.vf_yes h9,Cm.mf_yes h9] at f2
     repeat' first|(intro K hK;(with_reducible refine gC ?_);refine cP t1 ?_)|(refine sxZ ?_;try clear hK K)|refine sxW ?_ ?_<;>intro _|(intro K hK _;conv=>whnf)
     all_goals try (exfalso;omega)
     all_goals
      refine aC 2 (by decide) (by decide) ?_ ?_
      ·exact aD
      ·exact Qw.congr (by simp only [autoM,f2]<;>rfl)
    ·rw [Cm.vf_no h9,Cm.mf_no h9] at f2
     repeat' first|(refine sxZ ?_;try clear hK K)|refine sxW ?_ ?_<;>intro _|(intro K hK _;conv=>whnf)
     all_goals try (exfalso;omega)
     all_goals
      refine aC 2 (by decide) (by decide) ?_ ?_
      ·exact aD
      ·exact Qw.congr (by simp only [autoM,f2]<;>rfl)
   ·rw [f2]
    by_cases h9:0≤s3
    ·rw [Cm.vf_yes h9,Cm.mf_yes h9] at f3
     repeat' first|(intro K hK;(with_reducible refine gC ?_);refine cP t2 ?_)|(refine sxZ ?_;try clear hK K)|refine sxW ?_ ?_<;>intro _|(intro K hK _;conv=>whnf)
     all_goals try (exfalso;omega)
     all_goals
      refine aC 3 (by decide) (by decide) ?_ ?_
      ·exact aD
      ·exact Qw.congr (by simp only [autoM,f3]<;>rfl)
    ·rw [Cm.vf_no h9,Cm.mf_no h9] at f3
     repeat' first|(refine sxZ ?_;try clear hK K)|refine sxW ?_ ?_<;>intro _|(intro K hK _;conv=>whnf)
     all_goals try (exfalso;omega)
     all_goals
      refine aC 3 (by decide) (by decide) ?_ ?_
      ·exact aD
      ·exact Qw.congr (by simp only [autoM,f3]<;>rfl)
   ·rw [f3]
    by_cases h9:0≤s4
    ·rw [Cm.vf_yes h9,Cm.mf_yes h9] at f4
     repeat' first|(intro K hK;(with_reducible refine gC ?_);refine cP t3 ?_)|(refine sxZ ?_;try clear hK K)|refine sxW ?_ ?_<;>intro _|(intro K hK _;conv=>whnf)
     all_goals try (exfalso;omega)
     all_goals
      refine aC 4 (by decide) (by decide) ?_ ?_
      ·exact aD
      ·exact Qw.congr (by simp only [autoM,f4]<;>rfl)
    ·rw [Cm.vf_no h9,Cm.mf_no h9] at f4
     repeat' first|(refine sxZ ?_;try clear hK K)|refine sxW ?_ ?_<;>intro _|(intro K hK _;conv=>whnf)
     all_goals try (exfalso;omega)
     all_goals
      refine aC 4 (by decide) (by decide) ?_ ?_
      ·exact aD
      ·exact Qw.congr (by simp only [autoM,f4]<;>rfl)
   ·rw [f4]
    rw [f4] at ecs
    repeat' first|(refine sxZ ?_;try clear hK K)|refine sxW ?_ ?_<;>intro _|(intro K hK _;conv=>whnf)
    all_goals try (exfalso;omega)
    all_goals
     rename_i w2
     refine aC (G2,w2,ps++[⟨rl,v2⟩],i+1) ⟨hlt,hle2.trans h1,by rw [List.map_append,hrn];rfl,fun p hp=>?_,hs3⟩ (by show C.length - (i+1)<C.length - i;omega) ?_ (Qw.pre 3 ?_)
     ·rcases List.mem_append.1 hp with hp | hp
      ·exact Cm.arow_mono h1 (hall p hp)
      ·rw [List.mem_singleton.1 hp]
       show Cm.ARow G2 v2 rl.acts
       rw [era]
       exact h2
     ·dsimp only
      rw [List.length_append]
      exact aD
     ·dsimp only [autoM]
      rw [hnx,ecs,List.length_append]
      rfl
  ·have ht:Cm.tbl C 0 room=([],(Cm.acts C[i]).2):=by
    unfold Cm.tbl
    rw [if_neg (by simp),hs1 hae,if_pos hae]
   rw [ht]
   clear hs1 hs2
   generalize C[i]=c at *
   generalize Cm.acts c=ac at *
   obtain ⟨al,ae⟩:=ac
   obtain ⟨⟨s0,s1,s2,s3,s4⟩,O⟩:=c
   dsimp only at *
   simp only [Tr.cs] at *
   repeat' first|(intro K hK;(with_reducible refine gC ?_);(refine cN [0] ca ?_;rintro _ _ ⟨G2,v2,h1,h2,h3,rfl,rfl⟩;refine cR ?_))|(refine sxZ ?_;try clear hK K)|refine sxW ?_ ?_<;>intro _|(intro K hK _;conv=>whnf)
   all_goals first | (exfalso;omega) | exact ⟨G2,.slice none 0 0,[],(hle.trans hle2).trans h1,rfl,fun p hp=>(by cases hp),rfl,(Qw.pre 1 rfl).trans (Qw.nilRow _ _ _)⟩
 ·obtain rfl:i=C.length:=by omega
  rw [List.take_length] at hmap hsc
  have ht:Cm.tbl C 0 room=if (C.length:Int)>room then ([],6) else (Cm.rules C.length 0 C,0):=by
   unfold Cm.tbl
   rw [if_neg (by simp),hsc,if_neg (by simp)]
  by_cases hr:(C.length:Int)>room
  ·rw [ht,if_pos hr]
   repeat' first|(refine sxZ ?_;try clear hK K)|refine sxW ?_ ?_<;>intro _|(intro K hK _;conv=>whnf)
   all_goals first | (exfalso;omega) | exact ⟨G,.slice none 0 0,[],hle.trans hle2,rfl,fun p hp=>(by cases hp),rfl,(Qw.pre 1 rfl).trans (Qw.nilRow _ _ _)⟩
  ·rw [ht,if_neg hr]
   repeat' first|(refine sxZ ?_;try clear hK K)|refine sxW ?_ ?_<;>intro _|(intro K hK _;conv=>whnf)
   all_goals first | (exfalso;omega) | exact ⟨G,v,ps,hle.trans hle2,hmap,hall,rfl,Qw.pick [0,2] (by decide) rfl⟩
end Go.Proofs.YtmehinfgdcmmjaaGreatDoor
