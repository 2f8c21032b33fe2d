/- A part of the proof. -/
import Derived.Test.YtmehinfgdcmmjaaGreatDoorTJ14
import Derived.Test.YtmehinfgdcmmjaaGreatDoorTJ17
import Derived.Test.YtmehinfgdcmmjaaGreatDoorTJ4
namespace Go.Proofs.YtmehinfgdcmmjaaGreatDoor
open Go.Sx
set_option maxRecDepth 20000
set_option linter.unusedSimpArgs false
set_option linter.unusedVariables false
set_option maxHeartbeats 4000000
namespace Cm
def R (F:Heap) (x:Ru.R) (us:List Value):Prop:=∃ A cap,ARow F (.slice A x.acts.length cap) x.acts∧us=[.int .i64 x.prio,.int .i64 x.m.p,.int .i64 x.m.v0,.int .i64 x.m.v1,.int .i64 x.m.v2,.int .i64 x.m.v3,.int .i64 x.m.m0,.int .i64 x.m.m1,.int .i64 x.m.m2,.int .i64 x.m.m3,.slice A x.acts.length cap]
theorem arow_mono {F G:Heap} (h:F.le G) {v:Value} {l:List Ac.A} (hv:ARow F v l):ARow G v l:=aI.mono h (fun _ _ h=>h) hv
theorem R.mono {F G:Heap} (h:F.le G) {x:Ru.R} {us:List Value} (hc:R F x us):R G x us:=by
  obtain ⟨A,cap,h1,h2⟩:=hc
  exact ⟨A,cap,arow_mono h h1,h2⟩
abbrev Row (F:Heap) (v:Value) (l:List Ru.R):Prop:=aI F 11 (R F) v l
theorem Row.mono {F G:Heap} (h:F.le G) {v:Value} {l:List Ru.R} (hv:Row F v l):Row G v l:=aI.mono h (fun _ _ hp=>R.mono h hp) hv
structure Cell (F:Heap) (v:Value) (i:Nat) (x:Ru.R) (A:Option Addr) (cap:Nat):Prop where
  c0:F.c ((addrOf v).add (i*11)) (.int .i64 x.prio)
  c1:F.c ((addrOf v).add (i*11+1)) (.int .i64 x.m.p)
  c2:F.c ((addrOf v).add (i*11+2)) (.int .i64 x.m.v0)
  c3:F.c ((addrOf v).add (i*11+3)) (.int .i64 x.m.v1)
  c4:F.c ((addrOf v).add (i*11+4)) (.int .i64 x.m.v2)
  c5:F.c ((addrOf v).add (i*11+5)) (.int .i64 x.m.v3)
  c6:F.c ((addrOf v).add (i*11+6)) (.int .i64 x.m.m0)
  c7:F.c ((addrOf v).add (i*11+7)) (.int .i64 x.m.m1)
  c8:F.c ((addrOf v).add (i*11+8)) (.int .i64 x.m.m2)
  c9:F.c ((addrOf v).add (i*11+9)) (.int .i64 x.m.m3)
  c10:F.c ((addrOf v).add (i*11+10)) (.slice A x.acts.length cap)
theorem Row.get {F:Heap} {v:Value} {l:List Ru.R} (h:Row F v l) {i:Nat} {x:Ru.R} (hx:l[i]?=some x):∃ A cap,ARow F (.slice A x.acts.length cap) x.acts∧Cell F v i x A cap:=by
  obtain ⟨us,h1,_,h2⟩:=h.at_ i x hx
  obtain ⟨A,cap,h3,rfl⟩:=h1
  simp only [CellsF,Nat.add_assoc,Nat.reduceAdd] at h2
  obtain ⟨c0,c1,c2,c3,c4,c5,c6,c7,c8,c9,c10,_⟩:=h2
  exact ⟨A,cap,h3,c0,c1,c2,c3,c4,c5,c6,c7,c8,c9,c10⟩
structure L where
  x:Ru.R
  v:Value
def psC (ps:List L):List AV:=ps.flatMap fun p=>p.x.cs p.v
def psV (p:L):List Value:=denL (p.x.cs p.v)
theorem psC_den:∀ ps,denL (psC ps)=ps.flatMap psV
  | []=>rfl
  | p::ps=>by
    have:=psC_den ps
    unfold psC at *
    rw [List.flatMap_cons,List.flatMap_cons,aS,this]
    rfl
theorem psC_len (ps:List L):(psC ps).length=ps.length*11:=by
  induction ps with
  | nil=>rfl
  | cons p ps ih =>
    unfold psC at *
    rw [List.flatMap_cons,List.length_append,ih,List.length_cons]
    show 11+_=_
    omega
theorem psC_next (ps:List L) (p:L):psC (ps++[p])=psC ps++p.x.cs p.v:=by
  unfold psC
  rw [List.flatMap_append]
  simp
theorem row_of {G:Heap} {u:Value} {ps:List L} (h:aI G 11 (fun p vs=>vs=psV p) u ps) (hall:∀ p∈ps,ARow G p.v p.x.acts):Row G u (ps.map (·.x)):=by
  refine ⟨by rw [List.length_map];exact h.ok,fun k x hx=>?_⟩
  rw [List.getElem?_map] at hx
  cases hp:ps[k]? with
  | none=>rw [hp] at hx;cases hx
  | some p =>
    rw [hp] at hx
    simp only [Option.map_some,Option.some.injEq] at hx
    subst hx
    obtain ⟨vs,h1,h2,h3⟩:=h.at_ k p hp
    have hr:=hall p (List.mem_of_getElem? hp)
    refine ⟨vs,?_,h2,h3⟩
    obtain ⟨A,cap,hv,hle,hz⟩:=hr.ok
    rw [h1]
    obtain ⟨x,w⟩:=p
    dsimp only at hv hr ⊢
    subst hv
    exact ⟨A,cap,hr,rfl⟩
abbrev GivesT (F:Heap) (t:List Ru.R × Int) (r:AV) (m:List Blk):Prop:=∃ G v,F.le G∧Row G v t.1∧SlOk v t.1.length∧r = .tup [.hs v t.1.length,.int .i64 t.2]∧m=[hpB G]
theorem givesT_know {f:FuncId} {args:List AV} {F:Heap} {t:TypeId} {m:List Blk} {T:List Ru.R × Int} (h:Qz Tryz.prog f args m fun r m'=>∃ G v,∃ ps:List L,F.le G∧ps.map (·.x)=T.1∧(∀ p∈ps,ARow G p.v p.x.acts)∧r.den=(AV.tup [.raw (aw v),.int .i64 T.2]).den∧Qw m' [hpB G,⟨addrOf v,psC ps,.row v t 11 ps.length⟩]) :
    Qz Tryz.prog f args m fun r m'=>GivesT F T r m':=by
  refine Go.Sx.Qz.know h fun r m' ⟨G,u,ps,hle,hmap,hall,hr,hm⟩ ⟨w,hw⟩=>?_
  have hok:=((hm w hw).1.row (List.mem_cons_of_mem _ (List.mem_cons_self ..))).1
  have hrow:=aM (F:=G) (sz:=11) (enc:=psV) hok (psC_den ps) (fun x _=>rfl)
  have hR:=row_of hrow fun p hp=>arow_mono addF.old (hall p hp)
  rw [hmap] at hR
  refine ⟨.tup [.hs u T.1.length,.int .i64 T.2],_,by rw [hr];rfl,hm.trans (Qw.freeze (m:=[])),_,u,hle.trans addF.old,hR,hR.ok,rfl,rfl⟩
end Cm
theorem gu (F:Heap) (x:Po.T) (pu u:Value) (sw room:Int) (hs:Po.tot x≤1000000000) (hx:Po.At F x pu u) (hce:Po.right x=true→Po.cells (Po.spec sw x)≤4096) (hc:Po.right x=true→Tr.cnt (Po.spec sw x) Tr.order≤1000000) (hn:(Tr.ans sw x).1.length≤1000) (ho:∀ c∈(Tr.ans sw x).1,c.out.length≤1000) :
    Qz Tryz.prog 9 [.agg (Po.cs x pu u),.int .i64 sw,.int .i64 room] [hpB F] fun r m=>Cm.GivesT F (Cm.tbl (Tr.ans sw x).1 (Tr.ans sw x).2 room) r m:=by
  refine Cm.givesT_know (t:=75) ?_
  have hok:=hx.l.ok
  have hpok:=hx.p.ok
  have cC:=nq F x pu u sw hs hx hce hc
  generalize Tr.ans sw x=a at *
  obtain ⟨C,e⟩:=a
  dsimp only at *
  clear hx hce hc
  have cC:=cC.mono (K':=fun r m=>∃ F' v,F.le F'∧Tr.Row F' v C∧SlOk v C.length∧r = .tup [.hs v C.length,.int .i64 e]∧m=[hpB F']) fun r m ⟨F',v,h1,h2,h3,h4⟩=>⟨F',v,h1,h2,h2.ok,h3,h4⟩
  obtain ⟨k,⟨pk,pf,pv,pl⟩,a,v,l⟩:=x
  simp only [aY,Po.T.l,Po.T.p,Pd.T.k,Pd.T.f,Pd.T.v,Pd.T.l] at *
  refine aB Tryz.func9 rfl (by decide) ?_
  by_cases he:e=0
  rotate_left
  · have ht:Cm.tbl C e room=([],e):=by unfold Cm.tbl;rw [if_pos he]
    rw [ht]
    repeat' first|(intro K hK;(with_reducible refine gC ?_);(refine cN [0] cC ?_;rintro _ _ ⟨F2,w,hle,hw,hwo,rfl,rfl⟩;refine cR ?_))|(refine sxZ ?_;try clear hK K)|refine sxW ?_ ?_<;>intro _|(intro K hK _;conv=>whnf)
    all_goals first | (exfalso;omega) | exact ⟨F2,.slice none 0 0,[],hle,rfl,fun p hp=>(by cases hp),rfl,(Qw.pre 1 rfl).trans (Qw.nilRow _ _ _)⟩
  subst he
  repeat' first|(intro K hK;(with_reducible refine gC ?_);(refine cN [0] cC ?_;rintro _ _ ⟨F2,w,hle,hw,hwo,rfl,rfl⟩;refine cR ?_))|(refine sxZ ?_;try clear hK K)|refine sxW ?_ ?_<;>intro _|(intro K hK _;conv=>whnf)
  all_goals try (exfalso;omega)
  refine aE (α:=Heap × Value × List Cm.L × Nat) (fun (G,v,ps,i)=>i≤C.length∧F2.le G∧ps.map (·.x)=Cm.rules C.length 0 (C.take i)∧(∀ p∈ps,Cm.ARow G p.v p.x.acts)∧Cm.scan (C.take i)=0) (fun (G,v,ps,i)=>[.k,.k,.k,.k,.k,.k,.d,.d,.k,.k,.set (.sl 2 v ps.length),.d,.d,.d,.d,.k,.k,.k,.k,.k,.k,.k,.k,.k,.k,.k,.set (.int .i64 i),.d,.d,.d,.d,.d,.d,.d,.d,.d,.d,.d,.d,.d,.d,.d,.d,.d,.d,.d,.d,.d,.d,.d,.d,.k,.k,.k,.k,.k,.k,.k,.k,.k,.k])
    (fun (G,v,ps,i)=>[.set (hpB G),.k,.set ⟨addrOf v,Cm.psC ps,.row v 75 11 ps.length⟩]) (fun (G,v,ps,i)=>C.length - i) (F2,.slice none 0 0,[],0) ⟨Nat.zero_le _,F2.le_refl,rfl,fun p hp=>(by cases hp),rfl⟩ ?_ ?_ ?_
  · exact aD
  · exact (Qw.nilRow _ 75 11).trans (Qw.congr rfl)
  (intro ⟨G,v,ps,i⟩ ⟨hi,hle2,hmap,hall,hsc⟩;intro K hK;(conv=>whnf);refine hK _ _ ?_;clear hK K)
  dsimp only at hi hle2 hmap hall hsc ⊢
  have hpl:ps.length=i:=by
    have:=congrArg List.length hmap
    rw [List.length_map,Cm.rules_len,List.length_take,Nat.min_eq_left hi] at this
    exact this
  by_cases hlt:i<C.length
  · have hwG:=Tr.Row.mono hle2 hw
    obtain ⟨A,cap,hA,c0,c1,c2,c3,c4,c5⟩:=hwG.get (List.getElem?_eq_getElem hlt)
    have hol:=ho C[i] (List.getElem_mem hlt)
    have ca:=ph G C[i] (.slice A C[i].out.length cap) hA hol
    simp only [Cm.Gives] at ca
    have cq:=qU C[i] (.slice A C[i].out.length cap)
    have hs1:=Cm.scan_at hlt hsc
    have hs2:=Cm.scan_next hlt hsc
    have hrn:=Cm.rules_next C.length C hlt
    have hpc:=Cm.psC_len ps
    have hnx:=fun q=>Cm.psC_next ps q
    rw [← hmap] at hrn
    by_cases hae:(Cm.acts C[i]).2=0
    · have hs3:=hs2 hae
      clear hs2
      have ecs:∀ v:Value,(Cm.rule C.length i C[i]).cs v=[.int .i64 ((C.length - i:Nat):Int),.int .i64 (Cm.mt C[i].s).p,.int .i64 (Cm.mt C[i].s).v0,.int .i64 (Cm.mt C[i].s).v1,.int .i64 (Cm.mt C[i].s).v2,.int .i64 (Cm.mt C[i].s).v3,.int .i64 (Cm.mt C[i].s).m0,.int .i64 (Cm.mt C[i].s).m1,.int .i64 (Cm.mt C[i].s).m2,.int .i64 (Cm.mt C[i].s).m3,.hs v (Cm.acts C[i]).1.length]:=fun _=>rfl
      have era:(Cm.rule C.length i C[i]).acts=(Cm.acts C[i]).1:=rfl
      have epr:((C.length - i:Nat):Int)=(C.length:Int) - i:=by omega
      rw [epr] at ecs
      unfold Mt.M.av at cq
      generalize Cm.rule C.length i C[i]=rl at *
      generalize C[i]=c at *
      generalize Cm.mt c.s=mm at *
      generalize Cm.acts c=ac at *
      obtain ⟨al,ae⟩:=ac
      obtain ⟨⟨s0,s1,s2,s3,s4⟩,O⟩:=c
      dsimp only at *
      subst hae
      simp only [Tr.cs] at *
      generalize Cm.psC ps=pc at *
      repeat' first|(intro K hK;(with_reducible refine gC ?_);first|(refine cN [0] ca ?_;rintro _ _ ⟨G2,v2,h1,h2,h3,rfl,rfl⟩;refine cR ?_)|refine cP cq ?_)|(refine sxZ ?_;try clear hK K)|refine sxW ?_ ?_<;>intro _|(intro K hK _;conv=>whnf)
      all_goals try (exfalso;omega)
      all_goals
        rename_i w2
        refine aC (G2,w2,ps++[⟨rl,v2⟩],i+1) ⟨hlt,hle2.trans h1,by rw [List.map_append,hrn];rfl,fun p hp=>?_,hs3⟩ (by show C.length - (i+1)<C.length - i;omega) ?_ (Qw.pre 3 ?_)
        · rcases List.mem_append.1 hp with hp | hp
          · exact Cm.arow_mono h1 (hall p hp)
          · rw [List.mem_singleton.1 hp]
            show Cm.ARow G2 v2 rl.acts
            rw [era]
            exact h2
        · dsimp only
          rw [List.length_append]
          exact aD
        · dsimp only [autoM]
          rw [hnx,ecs,List.length_append]
          rfl
    · have ht:Cm.tbl C 0 room=([],(Cm.acts C[i]).2):=by
        unfold Cm.tbl
        rw [if_neg (by simp),hs1 hae,if_pos hae]
      rw [ht]
      generalize C[i]=c at *
      generalize Cm.acts c=ac at *
      obtain ⟨al,ae⟩:=ac
      obtain ⟨⟨s0,s1,s2,s3,s4⟩,O⟩:=c
      dsimp only at *
      simp only [Tr.cs] at *
      repeat' first|(intro K hK;(with_reducible refine gC ?_);(refine cN [0] ca ?_;rintro _ _ ⟨G2,v2,h1,h2,h3,rfl,rfl⟩;refine cR ?_))|(refine sxZ ?_;try clear hK K)|refine sxW ?_ ?_<;>intro _|(intro K hK _;conv=>whnf)
      all_goals first | (exfalso;omega) | exact ⟨G2,.slice none 0 0,[],(hle.trans hle2).trans h1,rfl,fun p hp=>(by cases hp),rfl,(Qw.pre 1 rfl).trans (Qw.nilRow _ _ _)⟩
  · obtain rfl:i=C.length:=by omega
    rw [List.take_length] at hmap hsc
    have ht:Cm.tbl C 0 room=if (C.length:Int)>room then ([],6) else (Cm.rules C.length 0 C,0):=by
      unfold Cm.tbl
      rw [if_neg (by simp),hsc,if_neg (by simp)]
    by_cases hr:(C.length:Int)>room
    · rw [ht,if_pos hr]
      repeat' first|(refine sxZ ?_;try clear hK K)|refine sxW ?_ ?_<;>intro _|(intro K hK _;conv=>whnf)
      all_goals first | (exfalso;omega) | exact ⟨G,.slice none 0 0,[],hle.trans hle2,rfl,fun p hp=>(by cases hp),rfl,(Qw.pre 1 rfl).trans (Qw.nilRow _ _ _)⟩
    · rw [ht,if_neg hr]
      repeat' first|(refine sxZ ?_;try clear hK K)|refine sxW ?_ ?_<;>intro _|(intro K hK _;conv=>whnf)
      all_goals first | (exfalso;omega) | exact ⟨G,v,ps,hle.trans hle2,hmap,hall,rfl,Qw.pick [0,2] (by decide) rfl⟩
abbrev Cm.LaysA (F:Heap) (l:List Ac.A) (r:AV) (m:List Blk):Prop:=∃ G v,F.le G∧SlOk v l.length∧(Cm.aav l).length=l.length*3∧CellsF G (addrOf v) 0 (denL (Cm.aav l))∧r = .hs v l.length∧m=[hpB G]
theorem Cm.ones_aav (l:List Ac.A):Go.Sx.ones (Cm.aav l)=true:=by
  induction l with
  | nil=>rfl
  | cons x l ih =>
    unfold Cm.aav at *
    rw [List.flatMap_cons]
    simpa [Ac.A.av,Go.Sx.ones] using ih
theorem fG (F:Heap) (s:Po.S):Qz Tryz.prog 78 [.agg [.int .i64 s.p0,.int .i64 s.p1,.int .i64 s.p2,.int .i64 s.p3]] [hpB F] fun r m=>Cm.LaysA F (Cm.sets s) r m:=by
  refine (Qz.grow (F:=F) (sz:=3) (t:=125) Ac.actV Cm.aav (fun l=>l=Cm.sets s) ?_ Cm.aav_den fun _=>rfl).mono fun r m ⟨G,v,l,h1,h2,h3,h4,h5⟩=>by
    subst h1
    refine ⟨G,v,h2,h5.ok,Cm.aav_len _,?_,h3,h4⟩
    rw [Cm.aav_den]
    exact h5.all.1
  have hsl:=Cm.setsK_len s
  have hq1:=Cm.setsK_1 s
  have hq2:=Cm.setsK_2 s
  have hq3:=Cm.setsK_3 s
  have hq4:=Cm.setsK_4 s
  have hq0:=Cm.setsK_0 s
  have hall:=Cm.setsK_all s
  rw [← hall]
  generalize Cm.setsK s=Q at *
  clear hall
  obtain ⟨x0,x1,x2,x3,x4⟩:=s
  dsimp only at *
  refine aB Tryz.func78 rfl (by decide) ?_
  repeat' first|(refine sxZ ?_;try clear hK K)|refine sxW ?_ ?_<;>intro _|(intro K hK _;conv=>whnf)
  refine aE (α:=Value × Nat) (fun (w,j)=>j≤4) (fun (w,j)=>[.k,.k,.k,.set (.sl 2 w (Q j).length),.set (.int .i64 j),.d,.d,.d,.d,.d,.d,.d,.d,.d,.d,.d,.d,.d,.d,.d,.d,.k])
    (fun (w,j)=>[.k,.k,.set ⟨addrOf w,Cm.aav (Q j),.row w 125 3 (Q j).length⟩]) (fun (w,j)=>4 - j) (.slice none 0 0,0) (Nat.zero_le _) ?_ ?_ ?_
  · dsimp only
    rw [hq0]
    exact aD
  · dsimp only
    rw [hq0]
    exact (Qw.nilRow _ 125 3).trans (Qw.congr rfl)
  (intro ⟨w,j⟩ hj;intro K hK;(conv=>whnf);refine hK _ _ ?_;clear hK K)
  dsimp only at hj ⊢
  have hln:(Cm.aav (Q j)).length=(Q j).length*3:=Cm.aav_len _
  have hl3:=hsl j
  have hj5:j=0∨j=1∨j=2∨j=3∨j=4:=by omega
  rcases hj5 with rfl | rfl | rfl | rfl | rfl
  · have hq:Cm.aav (Q 1)=Cm.aav (Q 0)++Cm.aav (Cm.set1 0 x1)∧(Q 1).length=(Q 0).length+(Cm.set1 0 x1).length:=by rw [hq1,Cm.aav_app,List.length_append];exact ⟨rfl,rfl⟩
    obtain ⟨e1,e2⟩:=hq
    generalize Cm.aav (Q 0)=pa at *
    by_cases h0:0≤x1
    · rw [Cm.set1_yes h0] at e1 e2
      repeat' first|(refine sxZ ?_;try clear hK K)|refine sxW ?_ ?_<;>intro _|(intro K hK _;conv=>whnf)
      all_goals first
        | (exfalso;omega)
        | (rename_i w2
           refine aC (w2,1) (by show 1≤4;decide) (by show 4 - 1<4 - 0;decide) ?_ (Qw.pre 3 ?_)
           · dsimp only
             rw [e2]
             exact aD
           · simp only [autoM,e1,e2]
             rfl)
    · rw [Cm.set1_no h0,show Cm.aav []=[] from rfl,List.append_nil] at e1
      rw [Cm.set1_no h0,List.length_nil,Nat.add_zero] at e2
      repeat' first|(refine sxZ ?_;try clear hK K)|refine sxW ?_ ?_<;>intro _|(intro K hK _;conv=>whnf)
      all_goals first
        | (exfalso;omega)
        | (refine aC (w,1) (by show 1≤4;decide) (by show 4 - 1<4 - 0;decide) ?_ (Qw.pre 3 ?_)
           · dsimp only
             rw [e2]
             exact aD
           · simp only [autoM,e1,e2]
             rfl)
  · have hq:Cm.aav (Q 2)=Cm.aav (Q 1)++Cm.aav (Cm.set1 1 x2)∧(Q 2).length=(Q 1).length+(Cm.set1 1 x2).length:=by rw [hq2,Cm.aav_app,List.length_append];exact ⟨rfl,rfl⟩
    obtain ⟨e1,e2⟩:=hq
    generalize Cm.aav (Q 1)=pa at *
    by_cases h0:0≤x2
    · rw [Cm.set1_yes h0] at e1 e2
      repeat' first|(refine sxZ ?_;try clear hK K)|refine sxW ?_ ?_<;>intro _|(intro K hK _;conv=>whnf)
      all_goals first
        | (exfalso;omega)
        | (rename_i w2
           refine aC (w2,2) (by show 2≤4;decide) (by show 4 - 2<4 - 1;decide) ?_ (Qw.pre 3 ?_)
           · dsimp only
             rw [e2]
             exact aD
           · simp only [autoM,e1,e2]
             rfl)
    · rw [Cm.set1_no h0,show Cm.aav []=[] from rfl,List.append_nil] at e1
      rw [Cm.set1_no h0,List.length_nil,Nat.add_zero] at e2
      repeat' first|(refine sxZ ?_;try clear hK K)|refine sxW ?_ ?_<;>intro _|(intro K hK _;conv=>whnf)
      all_goals first
        | (exfalso;omega)
        | (refine aC (w,2) (by show 2≤4;decide) (by show 4 - 2<4 - 1;decide) ?_ (Qw.pre 3 ?_)
           · dsimp only
             rw [e2]
             exact aD
           · simp only [autoM,e1,e2]
             rfl)
  · have hq:Cm.aav (Q 3)=Cm.aav (Q 2)++Cm.aav (Cm.set1 2 x3)∧(Q 3).length=(Q 2).length+(Cm.set1 2 x3).length:=by rw [hq3,Cm.aav_app,List.length_append];exact ⟨rfl,rfl⟩
    obtain ⟨e1,e2⟩:=hq
    generalize Cm.aav (Q 2)=pa at *
    by_cases h0:0≤x3
    · rw [Cm.set1_yes h0] at e1 e2
      repeat' first|(refine sxZ ?_;try clear hK K)|refine sxW ?_ ?_<;>intro _|(intro K hK _;conv=>whnf)
      all_goals first
        | (exfalso;omega)
        | (rename_i w2
           refine aC (w2,3) (by show 3≤4;decide) (by show 4 - 3<4 - 2;decide) ?_ (Qw.pre 3 ?_)
           · dsimp only
             rw [e2]
             exact aD
           · simp only [autoM,e1,e2]
             rfl)
    · rw [Cm.set1_no h0,show Cm.aav []=[] from rfl,List.append_nil] at e1
      rw [Cm.set1_no h0,List.length_nil,Nat.add_zero] at e2
      repeat' first|(refine sxZ ?_;try clear hK K)|refine sxW ?_ ?_<;>intro _|(intro K hK _;conv=>whnf)
      all_goals first
        | (exfalso;omega)
        | (refine aC (w,3) (by show 3≤4;decide) (by show 4 - 3<4 - 2;decide) ?_ (Qw.pre 3 ?_)
           · dsimp only
             rw [e2]
             exact aD
           · simp only [autoM,e1,e2]
             rfl)
  · have hq:Cm.aav (Q 4)=Cm.aav (Q 3)++Cm.aav (Cm.set1 3 x4)∧(Q 4).length=(Q 3).length+(Cm.set1 3 x4).length:=by rw [hq4,Cm.aav_app,List.length_append];exact ⟨rfl,rfl⟩
    obtain ⟨e1,e2⟩:=hq
    generalize Cm.aav (Q 3)=pa at *
    by_cases h0:0≤x4
    · rw [Cm.set1_yes h0] at e1 e2
      repeat' first|(refine sxZ ?_;try clear hK K)|refine sxW ?_ ?_<;>intro _|(intro K hK _;conv=>whnf)
      all_goals first
        | (exfalso;omega)
        | (rename_i w2
           refine aC (w2,4) (by show 4≤4;decide) (by show 4 - 4<4 - 3;decide) ?_ (Qw.pre 3 ?_)
           · dsimp only
             rw [e2]
             exact aD
           · simp only [autoM,e1,e2]
             rfl)
    · rw [Cm.set1_no h0,show Cm.aav []=[] from rfl,List.append_nil] at e1
      rw [Cm.set1_no h0,List.length_nil,Nat.add_zero] at e2
      repeat' first|(refine sxZ ?_;try clear hK K)|refine sxW ?_ ?_<;>intro _|(intro K hK _;conv=>whnf)
      all_goals first
        | (exfalso;omega)
        | (refine aC (w,4) (by show 4≤4;decide) (by show 4 - 4<4 - 3;decide) ?_ (Qw.pre 3 ?_)
           · dsimp only
             rw [e2]
             exact aD
           · simp only [autoM,e1,e2]
             rfl)
  · repeat' first|(refine sxZ ?_;try clear hK K)|refine sxW ?_ ?_<;>intro _|(intro K hK _;conv=>whnf)
    all_goals first | (exfalso;omega) | exact ⟨w,Q 4,rfl,rfl,Qw.pick [0,2] (by decide) rfl⟩
theorem jl (F:Heap) (c:Tr.C) (A:Value) (hA:Po.SRow F A c.out) (hl:c.out.length≤1000) :
    Qz Tryz.prog 38 [.agg (Tr.cs c A)] [hpB F] fun r m=>Cm.Gives F c r m:=by
  refine Cm.gives_know (t:=125) ?_
  have hok:=hA.ok
  have hst:∀ i (h:i<c.out.length),Cm.st c.s.port (c.out.take (i+1))=Cm.step c.s.port (Cm.st c.s.port (c.out.take i)) c.out[i]:=fun i h=>Cm.st_next h
  have hfl:∀ i (h:i<c.out.length),(Cm.st c.s.port (c.out.take (i+1))).2=!(Cm.sets c.out[i]).isEmpty:=fun i h=>Cm.st_flag h
  have hln:∀ i,i≤c.out.length→(Cm.st c.s.port (c.out.take i)).1.length≤6000:=fun i h=>by
    have:=Cm.st_len c.s.port (c.out.take i)
    rw [List.length_take] at this
    omega
  have hend:Cm.st c.s.port (c.out.take c.out.length)=Cm.st c.s.port c.out:=by rw [List.take_length]
  have h0:Cm.st c.s.port (c.out.take 0)=([],false):=rfl
  have hbad:∀ i (h:i<c.out.length),Cm.port c.s.port c.out[i]<0→Cm.acts c=([],13):=fun i h hb=>by
    unfold Cm.acts
    rw [if_neg fun hp=>?_]
    have:=hp _ (List.getElem_mem h)
    omega
  have hgood:(∀ s∈c.out,0≤Cm.port c.s.port s)→Cm.acts c=if (Cm.st c.s.port c.out).1.length>16 then ([],6) else ((Cm.st c.s.port c.out).1,0):=fun h=>by
    unfold Cm.acts
    rw [if_pos (show Cm.ported c.s.port c.out from h)]
  obtain ⟨⟨s0,s1,s2,s3,s4⟩,O⟩:=c
  dsimp only at *
  generalize hX:Cm.acts _=X at *
  generalize hT:(fun i=>Cm.st s0 (O.take i))=T
  have hT2:∀ i,Cm.st s0 (O.take i)=T i:=fun i=>by rw [← hT]
  simp only [hT2] at hst hln hend h0 hfl
  rw [← hend] at hgood
  clear hend hT hT2 hX
  simp only [Tr.cs] at *
  refine aB Tryz.func38 rfl (by decide) ?_
  repeat' first|(refine sxZ ?_;try clear hK K)|refine sxW ?_ ?_<;>intro _|(intro K hK _;conv=>whnf)
  refine aE (α:=Heap × Value × Nat) (fun (G,w,i)=>i≤O.length∧F.le G∧∀ j (h:j<i) (h2:j<O.length),0≤Cm.port s0 O[j]) (fun (G,w,i)=>[.k,.k,.d,.d,.set (.sl 2 w (T i).1.length),.set (.int .i64 i),.d,.d,.d,.d,.d,.d,.d,.d,.d,.d,.d,.d,.d,.d,.d,.d,.d,.d,.d,.d,.d,.d,.d,.d,.d,.d,.d,.d,.d,.d,.d,.d,.d,.d,.d,.d,.d,.d,.d,.d,.d,.d,.d,.d,.d,.d,.d,.d,.d,.d,.d,.d,.d,.d,.d,.k,.k,.k,.k])
    (fun (G,w,i)=>[.set (hpB G),.k,.set ⟨addrOf w,Cm.aav (T i).1,.row w 125 3 (T i).1.length⟩]) (fun (G,w,i)=>O.length - i) (F,.slice none 0 0,0) ⟨Nat.zero_le _,F.le_refl,fun j h=>absurd h (Nat.not_lt_zero _)⟩ ?_ ?_ ?_
  · dsimp only
    rw [h0]
    exact aD
  · dsimp only
    rw [h0]
    exact (Qw.nilRow _ 125 3).trans (Qw.congr rfl)
  (intro ⟨G,w,i⟩ ⟨hi,hle,hpos⟩;intro K hK;(conv=>whnf);refine hK _ _ ?_;clear hK K)
  dsimp only at hi hle hpos ⊢
  have hG:=Tr.srow_mono hle hA
  have hget:=fun {G':Heap} (hG':G.le G') {j:Nat} (h:j<O.length)=>aI.get5 (f0:=fun s:Po.S=>.int .i64 s.port) (f1:=fun s=>.int .i64 s.p0) (f2:=fun s=>.int .i64 s.p1) (f3:=fun s=>.int .i64 s.p2) (f4:=fun s=>.int .i64 s.p3) (Tr.srow_mono hG' hG) h
  by_cases hlt:i<O.length
  · have hs:=hst i hlt
    have hb:=hbad i hlt
    have hl1:=hln i hi
    have hpos2:0≤Cm.port s0 O[i]→∀ j (h:j<i+1) (h2:j<O.length),0≤Cm.port s0 O[j]:=fun h j hj h2=>by
      by_cases e:j=i
      · subst e;exact h
      · exact hpos j (by omega) h2
    have hgx:=fun {G':Heap} (hG':G.le G')=>hget hG' hlt
    have csx:=fun G'=>fG G' O[i]
    have hpre:(i=0∧(T i).2=false)∨∃ k,i=k+1∧∃ h:k<O.length,(T i).2=!(Cm.sets O[k]).isEmpty:=by
      match i,hlt with
      | 0,_=>exact .inl ⟨rfl,by rw [h0]⟩
      | k+1,h=>exact .inr ⟨k,rfl,by omega,hfl k (by omega)⟩
    have hgy:=fun {k:Nat} (h:k<O.length)=>hget G.le_refl h
    have csy:=fun {k:Nat} (h:k<O.length)=>fG G O[k]
    clear hst hfl hbad hgood hA hpos hln hget hG
    generalize O[i]=x at *
    generalize hTn:T (i+1)=Tn at *
    generalize T i=Ti at *
    obtain ⟨o,p⟩:=Ti
    dsimp only at *
    unfold Cm.step at hs
    have hxl:=Cm.sets_len x
    have hxn:=Cm.ones_aav (Cm.sets x)
    generalize Cm.sets x=X9 at *
    unfold Cm.port at *
    obtain ⟨x0,x1,x2,x3,x4⟩:=x
    dsimp only at *
    have hal:=Cm.aav_len o
    have csx:=fun GX (hGX:G.le GX)=>(csx GX).mono (K':=fun r m=>∃ G2 v,GX.le G2∧SlOk v X9.length∧(Cm.aav X9).length=X9.length*3∧CellsF G2 (addrOf v) 0 (denL (Cm.aav X9))∧(G2.c ((addrOf A).add (i*5)) (.int .i64 x0))∧r = .hs v X9.length∧m=[hpB G2]) fun r m ⟨G2,v,k1,k2,k3,k4,k5,k6⟩=>⟨G2,v,k1,k2,k3,k4,(hgx (hGX.trans k1)).1,k5,k6⟩
    rcases hpre with ⟨hi0,hp⟩ | ⟨k,hik,hk,hp⟩
    · subst hp
      have hs:Tn=(o++[]++X9++[⟨2,0,if x0<0 then s0 else x0⟩],!X9.isEmpty):=hs
      rw [List.append_nil] at hs
      obtain ⟨g0,g1,g2,g3,g4⟩:=hgx G.le_refl
      have csx:=csx G G.le_refl
      clear hgy csy hgx
      have hs2:Tn=(o++X9++[⟨2,0,if x0<0 then s0 else x0⟩],!X9.isEmpty):=hs
      have ea2:=fun v=>Cm.aav_1 (o++X9) ⟨2,0,v⟩
      have el2:∀ v,(o++X9++[(⟨2,0,v⟩:Ac.A)]).length=o.length+X9.length+1:=fun v=>by rw [List.length_append,List.length_append];rfl
      rw [Cm.aav_app] at ea2
      by_cases hx:x0<0
      · rw [if_pos hx] at hs2 hb hpos2
        by_cases hc:s0<0
        · rw [hb hc]
          repeat' first|((try intro K hK);(with_reducible refine gC ?_);(refine cN [0] csx ?_;rintro _ _ ⟨G3,v3,h2,h3,h4,h5,h6,rfl,rfl⟩;refine cR ?_))|((try intro K hK);(refine NRd.of (Cm.aav X9) h4 h5 ?_;conv=>whnf))|((try intro K hK);(with_reducible refine NH.mk ?s ?_);(case s=>(and_intros<;>first|with_reducible rfl|omega|(first | exact hxn | rfl | assumption)));conv=>whnf)|(refine sxZ ?_;try clear hK K)|refine sxW ?_ ?_<;>intro _|(intro K hK _;conv=>whnf)|(intro _;conv=>whnf)
          all_goals first
            | (exfalso;omega)
            | exact ⟨G3,.slice none 0 0,hle.trans h2,rfl,(Qw.pre 1 rfl).trans (Qw.nilRow _ _ _)⟩
        · repeat' first|((try intro K hK);(with_reducible refine gC ?_);(refine cN [0] csx ?_;rintro _ _ ⟨G3,v3,h2,h3,h4,h5,h6,rfl,rfl⟩;refine cR ?_))|((try intro K hK);(refine NRd.of (Cm.aav X9) h4 h5 ?_;conv=>whnf))|((try intro K hK);(with_reducible refine NH.mk ?s ?_);(case s=>(and_intros<;>first|with_reducible rfl|omega|(first | exact hxn | rfl | assumption)));conv=>whnf)|(refine sxZ ?_;try clear hK K)|refine sxW ?_ ?_<;>intro _|(intro K hK _;conv=>whnf)|(intro _;conv=>whnf)
          all_goals first
            | (exfalso;omega)
            | (rename_i w2
               refine aC (G3,w2,i+1) ⟨hlt,hle.trans h2,hpos2 (by omega)⟩ (by show O.length - (i+1)<O.length - i;omega) ?_ (Qw.pre 3 ?_)
               · dsimp only
                 rw [hTn,hs2]
                 dsimp only
                 rw [el2]
                 exact aD
               · simp only [autoM,hTn,hs2,ea2,el2]
                 rfl)
      · rw [if_neg hx] at hs2 hb hpos2
        repeat' first|((try intro K hK);(with_reducible refine gC ?_);(refine cN [0] csx ?_;rintro _ _ ⟨G3,v3,h2,h3,h4,h5,h6,rfl,rfl⟩;refine cR ?_))|((try intro K hK);(refine NRd.of (Cm.aav X9) h4 h5 ?_;conv=>whnf))|((try intro K hK);(with_reducible refine NH.mk ?s ?_);(case s=>(and_intros<;>first|with_reducible rfl|omega|(first | exact hxn | rfl | assumption)));conv=>whnf)|(refine sxZ ?_;try clear hK K)|refine sxW ?_ ?_<;>intro _|(intro K hK _;conv=>whnf)|(intro _;conv=>whnf)
        all_goals first
          | (exfalso;omega)
          | (rename_i w2
             refine aC (G3,w2,i+1) ⟨hlt,hle.trans h2,hpos2 (by omega)⟩ (by show O.length - (i+1)<O.length - i;omega) ?_ (Qw.pre 3 ?_)
             · dsimp only
               rw [hTn,hs2]
               dsimp only
               rw [el2]
               exact aD
             · simp only [autoM,hTn,hs2,ea2,el2]
               rfl)
    · have csy:=(csy hk).mono (K':=fun r m=>∃ G1 v,G.le G1∧SlOk v (Cm.sets O[k]).length∧(G1.c ((addrOf A).add (i*5+1)) (.int .i64 x1)∧G1.c ((addrOf A).add (i*5+2)) (.int .i64 x2)∧G1.c ((addrOf A).add (i*5+3)) (.int .i64 x3)∧G1.c ((addrOf A).add (i*5+4)) (.int .i64 x4))∧r = .hs v (Cm.sets O[k]).length∧m=[hpB G1]) fun r m ⟨G1,v,k1,k2,_,_,k5,k6⟩=>⟨G1,v,k1,k2,(hgx k1).2,k5,k6⟩
      obtain ⟨q0,q1,q2,q3,q4⟩:=hgy hk
      clear hgy hgx
      generalize Cm.sets O[k]=Y at *
      generalize O[k]=y at *
      obtain ⟨y0,y1,y2,y3,y4⟩:=y
      have ek:((i:Int) - 1).toNat=k:=by omega
      rw [← ek] at q0 q1 q2 q3 q4
      dsimp only at *
      cases Y with
      | nil =>
        subst hp
        have hs:Tn=(o++[]++X9++[⟨2,0,if x0<0 then s0 else x0⟩],!X9.isEmpty):=hs
        rw [List.append_nil] at hs
        have hs2:Tn=(o++X9++[⟨2,0,if x0<0 then s0 else x0⟩],!X9.isEmpty):=hs
        have ea2:=fun v=>Cm.aav_1 (o++X9) ⟨2,0,v⟩
        have el2:∀ v,(o++X9++[(⟨2,0,v⟩:Ac.A)]).length=o.length+X9.length+1:=fun v=>by rw [List.length_append,List.length_append];rfl
        rw [Cm.aav_app] at ea2
        by_cases hx:x0<0
        · rw [if_pos hx] at hs2 hb hpos2
          by_cases hc:s0<0
          · rw [hb hc]
            repeat' first|((try intro K hK);(with_reducible refine gC ?_);first|(refine cN [0] csy ?_;rintro _ _ ⟨G1,v1,j1,j2,⟨j3,j4,j5,j6⟩,rfl,rfl⟩;refine cR ?_)|(refine cN [0] (csx G1 j1) ?_;rintro _ _ ⟨G3,v3,h2,h3,h4,h5,h6,rfl,rfl⟩;refine cR ?_))|((try intro K hK);(refine NRd.of (Cm.aav X9) h4 h5 ?_;conv=>whnf))|((try intro K hK);(with_reducible refine NH.mk ?s ?_);(case s=>(and_intros<;>first|with_reducible rfl|omega|(first | exact hxn | rfl | assumption)));conv=>whnf)|(refine sxZ ?_;try clear hK K)|refine sxW ?_ ?_<;>intro _|(intro K hK _;conv=>whnf)|(intro _;conv=>whnf)
            all_goals first
              | (exfalso;omega)
              | exact ⟨G3,.slice none 0 0,hle.trans (j1.trans h2),rfl,(Qw.pre 1 rfl).trans (Qw.nilRow _ _ _)⟩
          · repeat' first|((try intro K hK);(with_reducible refine gC ?_);first|(refine cN [0] csy ?_;rintro _ _ ⟨G1,v1,j1,j2,⟨j3,j4,j5,j6⟩,rfl,rfl⟩;refine cR ?_)|(refine cN [0] (csx G1 j1) ?_;rintro _ _ ⟨G3,v3,h2,h3,h4,h5,h6,rfl,rfl⟩;refine cR ?_))|((try intro K hK);(refine NRd.of (Cm.aav X9) h4 h5 ?_;conv=>whnf))|((try intro K hK);(with_reducible refine NH.mk ?s ?_);(case s=>(and_intros<;>first|with_reducible rfl|omega|(first | exact hxn | rfl | assumption)));conv=>whnf)|(refine sxZ ?_;try clear hK K)|refine sxW ?_ ?_<;>intro _|(intro K hK _;conv=>whnf)|(intro _;conv=>whnf)
            all_goals first
              | (exfalso;omega)
              | (rename_i w2
                 refine aC (G3,w2,i+1) ⟨hlt,hle.trans (j1.trans h2),hpos2 (by omega)⟩ (by show O.length - (i+1)<O.length - i;omega) ?_ (Qw.pre 3 ?_)
                 · dsimp only
                   rw [hTn,hs2]
                   dsimp only
                   rw [el2]
                   exact aD
                 · simp only [autoM,hTn,hs2,ea2,el2]
                   rfl)
        · rw [if_neg hx] at hs2 hb hpos2
          repeat' first|((try intro K hK);(with_reducible refine gC ?_);first|(refine cN [0] csy ?_;rintro _ _ ⟨G1,v1,j1,j2,⟨j3,j4,j5,j6⟩,rfl,rfl⟩;refine cR ?_)|(refine cN [0] (csx G1 j1) ?_;rintro _ _ ⟨G3,v3,h2,h3,h4,h5,h6,rfl,rfl⟩;refine cR ?_))|((try intro K hK);(refine NRd.of (Cm.aav X9) h4 h5 ?_;conv=>whnf))|((try intro K hK);(with_reducible refine NH.mk ?s ?_);(case s=>(and_intros<;>first|with_reducible rfl|omega|(first | exact hxn | rfl | assumption)));conv=>whnf)|(refine sxZ ?_;try clear hK K)|refine sxW ?_ ?_<;>intro _|(intro K hK _;conv=>whnf)|(intro _;conv=>whnf)
          all_goals first
            | (exfalso;omega)
            | (rename_i w2
               refine aC (G3,w2,i+1) ⟨hlt,hle.trans (j1.trans h2),hpos2 (by omega)⟩ (by show O.length - (i+1)<O.length - i;omega) ?_ (Qw.pre 3 ?_)
               · dsimp only
                 rw [hTn,hs2]
                 dsimp only
                 rw [el2]
                 exact aD
               · simp only [autoM,hTn,hs2,ea2,el2]
                 rfl)
      | cons y9 Y =>
        subst hp
        have hs:Tn=(o++[⟨3,0,0⟩]++X9++[⟨2,0,if x0<0 then s0 else x0⟩],!X9.isEmpty):=hs
        have hyn:0<(y9::Y).length:=by simp
        generalize (y9::Y).length=yn at csy hyn
        have eB:Cm.aav (o++[(⟨3,0,0⟩:Ac.A)])=Cm.aav o++[.int .i64 3,.int .i64 0,.int .i64 0]:=Cm.aav_1 o ⟨3,0,0⟩
        have lB:(o++[(⟨3,0,0⟩:Ac.A)]).length=o.length+1:=by rw [List.length_append];rfl
        have hs2:Tn=(o++[(⟨3,0,0⟩:Ac.A)]++X9++[⟨2,0,if x0<0 then s0 else x0⟩],!X9.isEmpty):=hs
        have ea2:=fun v=>Cm.aav_1 (o++[(⟨3,0,0⟩:Ac.A)]++X9) ⟨2,0,v⟩
        have el2:∀ v,(o++[(⟨3,0,0⟩:Ac.A)]++X9++[(⟨2,0,v⟩:Ac.A)]).length=(o++[(⟨3,0,0⟩:Ac.A)]).length+X9.length+1:=fun v=>by rw [List.length_append,List.length_append];rfl
        rw [Cm.aav_app,eB] at ea2
        rw [lB] at el2
        by_cases hx:x0<0
        · rw [if_pos hx] at hs2 hb hpos2
          by_cases hc:s0<0
          · rw [hb hc]
            repeat' first|((try intro K hK);(with_reducible refine gC ?_);first|(refine cN [0] csy ?_;rintro _ _ ⟨G1,v1,j1,j2,⟨j3,j4,j5,j6⟩,rfl,rfl⟩;refine cR ?_)|(refine cN [0] (csx G1 j1) ?_;rintro _ _ ⟨G3,v3,h2,h3,h4,h5,h6,rfl,rfl⟩;refine cR ?_))|((try intro K hK);(refine NRd.of (Cm.aav X9) h4 h5 ?_;conv=>whnf))|((try intro K hK);(with_reducible refine NH.mk ?s ?_);(case s=>(and_intros<;>first|with_reducible rfl|omega|(first | exact hxn | rfl | assumption)));conv=>whnf)|(refine sxZ ?_;try clear hK K)|refine sxW ?_ ?_<;>intro _|(intro K hK _;conv=>whnf)|(intro _;conv=>whnf)
            all_goals first
              | (exfalso;omega)
              | exact ⟨G3,.slice none 0 0,hle.trans (j1.trans h2),rfl,(Qw.pre 1 rfl).trans (Qw.nilRow _ _ _)⟩
          · repeat' first|((try intro K hK);(with_reducible refine gC ?_);first|(refine cN [0] csy ?_;rintro _ _ ⟨G1,v1,j1,j2,⟨j3,j4,j5,j6⟩,rfl,rfl⟩;refine cR ?_)|(refine cN [0] (csx G1 j1) ?_;rintro _ _ ⟨G3,v3,h2,h3,h4,h5,h6,rfl,rfl⟩;refine cR ?_))|((try intro K hK);(refine NRd.of (Cm.aav X9) h4 h5 ?_;conv=>whnf))|((try intro K hK);(with_reducible refine NH.mk ?s ?_);(case s=>(and_intros<;>first|with_reducible rfl|omega|(first | exact hxn | rfl | assumption)));conv=>whnf)|(refine sxZ ?_;try clear hK K)|refine sxW ?_ ?_<;>intro _|(intro K hK _;conv=>whnf)|(intro _;conv=>whnf)
            all_goals first
              | (exfalso;omega)
              | (rename_i w2
                 refine aC (G3,w2,i+1) ⟨hlt,hle.trans (j1.trans h2),hpos2 (by omega)⟩ (by show O.length - (i+1)<O.length - i;omega) ?_ (Qw.pre 3 ?_)
                 · dsimp only
                   rw [hTn,hs2]
                   dsimp only
                   rw [el2]
                   exact aD
                 · simp only [autoM,hTn,hs2,ea2,el2]
                   rfl)
        · rw [if_neg hx] at hs2 hb hpos2
          repeat' first|((try intro K hK);(with_reducible refine gC ?_);first|(refine cN [0] csy ?_;rintro _ _ ⟨G1,v1,j1,j2,⟨j3,j4,j5,j6⟩,rfl,rfl⟩;refine cR ?_)|(refine cN [0] (csx G1 j1) ?_;rintro _ _ ⟨G3,v3,h2,h3,h4,h5,h6,rfl,rfl⟩;refine cR ?_))|((try intro K hK);(refine NRd.of (Cm.aav X9) h4 h5 ?_;conv=>whnf))|((try intro K hK);(with_reducible refine NH.mk ?s ?_);(case s=>(and_intros<;>first|with_reducible rfl|omega|(first | exact hxn | rfl | assumption)));conv=>whnf)|(refine sxZ ?_;try clear hK K)|refine sxW ?_ ?_<;>intro _|(intro K hK _;conv=>whnf)|(intro _;conv=>whnf)
          all_goals first
            | (exfalso;omega)
            | (rename_i w2
               refine aC (G3,w2,i+1) ⟨hlt,hle.trans (j1.trans h2),hpos2 (by omega)⟩ (by show O.length - (i+1)<O.length - i;omega) ?_ (Qw.pre 3 ?_)
               · dsimp only
                 rw [hTn,hs2]
                 dsimp only
                 rw [el2]
                 exact aD
               · simp only [autoM,hTn,hs2,ea2,el2]
                 rfl)
  · obtain rfl:i=O.length:=by omega
    have hg:=hgood fun s hs=>by
      obtain ⟨j,hj,e⟩:=List.getElem_of_mem hs
      rw [← e]
      exact hpos j hj hj
    rw [hg]
    by_cases h16:(T O.length).1.length>16
    · rw [if_pos h16]
      repeat' first|(refine sxZ ?_;try clear hK K)|refine sxW ?_ ?_<;>intro _|(intro K hK _;conv=>whnf)
      all_goals first
        | (exfalso;omega)
        | exact ⟨G,.slice none 0 0,hle,rfl,(Qw.pre 1 rfl).trans (Qw.nilRow _ _ _)⟩
    · rw [if_neg h16]
      repeat' first|(refine sxZ ?_;try clear hK K)|refine sxW ?_ ?_<;>intro _|(intro K hK _;conv=>whnf)
      all_goals first
        | (exfalso;omega)
        | exact ⟨G,w,hle,rfl,Qw.pick [0,2] (by decide) rfl⟩
end Go.Proofs.YtmehinfgdcmmjaaGreatDoor
