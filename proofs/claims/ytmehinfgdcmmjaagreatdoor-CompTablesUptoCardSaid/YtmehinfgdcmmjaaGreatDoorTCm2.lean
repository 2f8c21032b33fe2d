/- A part of the proof. -/
import Derived.Test.YtmehinfgdcmmjaaGreatDoorTJ6
namespace Go.Proofs.YtmehinfgdcmmjaaGreatDoor
open Go.Sx
set_option maxRecDepth 20000
set_option linter.unusedSimpArgs false
set_option linter.unusedVariables false
set_option maxHeartbeats 4000000
namespace Cm
open Po (S)
def aav (l:List Ac.A):List AV:=l.flatMap Ac.A.av
theorem aav_app (a b:List Ac.A):aav (a++b)=aav a++aav b:=by unfold aav;rw [List.flatMap_append]
theorem aav_den (l:List Ac.A):denL (aav l)=l.flatMap Ac.actV:=by
  induction l with
  | nil=>rfl
  | cons x l ih=>unfold aav at *;rw [List.flatMap_cons,List.flatMap_cons,aS,ih];rfl
theorem aav_len (l:List Ac.A):(aav l).length=l.length*3:=by
  induction l with
  | nil=>rfl
  | cons x l ih=>unfold aav at *;rw [List.flatMap_cons,List.length_append,ih,List.length_cons,Nat.succ_mul];simp only [Ac.A.av,List.length_cons,List.length_nil];omega
abbrev ARow (F:Heap) (v:Value) (l:List Ac.A):Prop:=aI F 3 (fun x vs=>vs=Ac.actV x) v l
def setsK (s:S) (j:Nat):List Ac.A:=([set1 0 s.p0,set1 1 s.p1,set1 2 s.p2,set1 3 s.p3].take j).flatten
theorem setsK_all (s:S):setsK s 4=sets s:=by simp [setsK,sets,List.append_assoc]
theorem setsK_len (s:S) (j:Nat):(setsK s j).length≤4:=by
  have h0:=set1_len 0 s.p0
  have h1:=set1_len 1 s.p1
  have h2:=set1_len 2 s.p2
  have h3:=set1_len 3 s.p3
  unfold setsK
  match j with
  | 0=>simp
  | 1=>simp;omega
  | 2=>simp;omega
  | 3=>simp;omega
  | j+4=>simp;omega
theorem set1_yes {f v:Int} (h:0≤v):set1 f v=[⟨1,f,v⟩]:=if_pos h
theorem set1_no {f v:Int} (h:¬ 0≤v):set1 f v=[]:=if_neg h
theorem setsK_0 (s:S):setsK s 0=[]:=rfl
theorem setsK_1 (s:S):setsK s 1=setsK s 0++set1 0 s.p0:=by simp [setsK]
theorem setsK_2 (s:S):setsK s 2=setsK s 1++set1 1 s.p1:=by simp [setsK]
theorem setsK_3 (s:S):setsK s 3=setsK s 2++set1 2 s.p2:=by simp [setsK]
theorem setsK_4 (s:S):setsK s 4=setsK s 3++set1 3 s.p3:=by simp [setsK]
theorem aav_1 (l:List Ac.A) (x:Ac.A):aav (l++[x])=aav l++[.int .i64 x.k,.int .i64 x.f,.int .i64 x.v]:=by rw [aav_app];rfl
abbrev Gives (F:Heap) (c:Tr.C) (r:AV) (m:List Blk):Prop:=∃ G v,F.le G∧ARow G v (acts c).1∧SlOk v (acts c).1.length∧r = .tup [.hs v (acts c).1.length,.int .i64 (acts c).2]∧m=[hpB G]
theorem gives_know {f:FuncId} {args:List AV} {F:Heap} {t:TypeId} {m:List Blk} {c:Tr.C} (h:Qz Tryz.prog f args m fun r m'=>∃ G v,F.le G∧r.den=(AV.tup [.raw (aw v),.int .i64 (acts c).2]).den∧Qw m' [hpB G,⟨addrOf v,aav (acts c).1,.row v t 3 (acts c).1.length⟩]) :
    Qz Tryz.prog f args m fun r m'=>Gives F c r m':=by
  refine Go.Sx.Qz.know h fun r m' ⟨G,v,hle,hr,hm⟩ ⟨w,hw⟩=>?_
  have hok:=((hm w hw).1.row (List.mem_cons_of_mem _ (List.mem_cons_self ..))).1
  have hrow:=aM (F:=G) (sz:=3) (enc:=Ac.actV) hok (aav_den _) (fun x _=>rfl)
  refine ⟨.tup [.hs v (acts c).1.length,.int .i64 (acts c).2],_,by rw [hr];rfl,hm.trans (Qw.freeze (m:=[])),_,v,hle.trans addF.old,hrow,hrow.ok,rfl,rfl⟩
end Cm
theorem ph (F:Heap) (c:Tr.C) (A:Value) (hA:Po.SRow F A c.out) (hl:c.out.length≤1000) :
    Qz Tryz.prog 27 [.agg (Tr.cs c A)] [hpB F] fun r m=>Cm.Gives F c r m:=by
  refine Cm.gives_know (t:=125) ?_
  have hok:=hA.ok
  have hst:∀ i (h:i<c.out.length),Cm.st c.s.port (c.out.take (i+1))=Cm.step c.s.port (Cm.st c.s.port (c.out.take i)) c.out[i]:=fun i h=>Cm.st_next h
  have hln:∀ i,i≤c.out.length→(Cm.st c.s.port (c.out.take i)).1.length≤6000:=fun i h=>by
    have:=Cm.st_len c.s.port (c.out.take i)
    rw [List.length_take] at this
    omega
  have hend:Cm.st c.s.port (c.out.take c.out.length)=Cm.st c.s.port c.out:=by rw [List.take_length]
  have h0:Cm.st c.s.port (c.out.take 0)=([],false):=rfl
  have hbad:∀ i (h:i<c.out.length),Cm.port c.s.port c.out[i]<0→Cm.acts c=([],13):=fun i h hb=>by
    unfold Cm.acts
    rw [if_neg fun hp=>?_]
    have:=hp _ (List.getElem_mem h)
    omega
  have hgood:(∀ s∈c.out,0≤Cm.port c.s.port s)→Cm.acts c=if (Cm.st c.s.port c.out).1.length>16 then ([],6) else ((Cm.st c.s.port c.out).1,0):=fun h=>by
    unfold Cm.acts
    rw [if_pos (show Cm.ported c.s.port c.out from h)]
  obtain ⟨⟨s0,s1,s2,s3,s4⟩,O⟩:=c
  dsimp only at *
  generalize hX:Cm.acts _=X at *
  generalize hT:(fun i=>Cm.st s0 (O.take i))=T
  have hT2:∀ i,Cm.st s0 (O.take i)=T i:=fun i=>by rw [← hT]
  simp only [hT2] at hst hln hend h0
  rw [← hend] at hgood
  clear hend hT hT2 hX
  simp only [Tr.cs] at *
  refine aB Tryz.func27 rfl (by decide) ?_
  repeat' first|(refine sxZ ?_;try clear hK K)|refine sxW ?_ ?_<;>intro _|(intro K hK _;conv=>whnf)
  refine aE (α:=Value × Nat) (fun (w,i)=>i≤O.length∧∀ j (h:j<i) (h2:j<O.length),0≤Cm.port s0 O[j]) (fun (w,i)=>[.k,.k,.d,.d,.set (.sl 2 w (T i).1.length),.set (.bool (T i).2),.k,.d,.d,.d,.d,.k,.k,.k,.set (.int .i64 i),.d,.d,.d,.d,.d,.d,.d,.d,.d,.d,.d,.d,.d,.d,.d,.d,.d,.d,.d,.d,.d,.d,.d,.d,.d,.d,.d,.d,.d,.d,.d,.d,.d,.d,.d,.d,.d,.k,.k,.k,.k])
    (fun (w,i)=>[.k,.k,.set ⟨addrOf w,Cm.aav (T i).1,.row w 125 3 (T i).1.length⟩]) (fun (w,i)=>O.length - i) (.slice none 0 0,0) ⟨Nat.zero_le _,fun j h=>absurd h (Nat.not_lt_zero _)⟩ ?_ ?_ ?_
  · dsimp only
    rw [h0]
    exact aD
  · dsimp only
    rw [h0]
    exact (Qw.nilRow _ 125 3).trans (Qw.congr rfl)
  (intro ⟨w,i⟩ ⟨hi,hpos⟩;intro K hK;(conv=>whnf);refine hK _ _ ?_;clear hK K)
  dsimp only at hi hpos ⊢
  by_cases hlt:i<O.length
  · obtain ⟨g0,g1,g2,g3,g4⟩:=aI.get5 (f0:=fun s:Po.S=>.int .i64 s.port) (f1:=fun s=>.int .i64 s.p0) (f2:=fun s=>.int .i64 s.p1) (f3:=fun s=>.int .i64 s.p2) (f4:=fun s=>.int .i64 s.p3) hA hlt
    have hs:=hst i hlt
    have hb:=hbad i hlt
    have hl1:=hln i hi
    have hpos2:0≤Cm.port s0 O[i]→∀ j (h:j<i+1) (h2:j<O.length),0≤Cm.port s0 O[j]:=fun h j hj h2=>by
      by_cases e:j=i
      · subst e;exact h
      · exact hpos j (by omega) h2
    clear hst hbad hgood hA hpos hln
    generalize O[i]=x at *
    generalize hTn:T (i+1)=Tn at *
    generalize T i=Ti at *
    obtain ⟨o,p⟩:=Ti
    dsimp only at *
    have hsl:=Cm.setsK_len x
    have hq1:=Cm.setsK_1 x
    have hq2:=Cm.setsK_2 x
    have hq3:=Cm.setsK_3 x
    have hq4:=Cm.setsK_4 x
    have hq0:=Cm.setsK_0 x
    have hall:=Cm.setsK_all x
    unfold Cm.step at hs
    rw [← hall] at hs
    generalize Cm.setsK x=Q at *
    unfold Cm.port at *
    obtain ⟨x0,x1,x2,x3,x4⟩:=x
    dsimp only at *
    have hal:=Cm.aav_len o
    cases p
    · repeat' first|(refine sxZ ?_;try clear hK K)|refine sxW ?_ ?_<;>intro _|(intro K hK _;conv=>whnf)
      generalize o=B at *
      generalize w=w1 at *
      have hs:Tn=(B++[]++Q 4++[⟨2,0,if x0<0 then s0 else x0⟩],!(Q 4).isEmpty):=hs
      rw [List.append_nil] at hs
      have hl1:B.length≤6001:=by omega
      refine aE (α:=Value × Nat) (fun (w,j)=>j≤4) (fun (w,j)=>[.k,.k,.k,.k,.set (.sl 2 w (B++Q j).length),.set (.bool (!(Q j).isEmpty)),.k,.k,.d,.d,.k,.k,.k,.k,.k,.k,.k,.k,.k,.k,.k,.k,.k,.k,.k,.set (.int .i64 j),.d,.d,.d,.d,.d,.d,.d,.d,.d,.d,.d,.d,.k,.k,.k,.k,.k,.k,.k,.k,.k,.k,.k,.k,.k,.k,.k,.k,.k,.k])
        (fun (w,j)=>[.k,.k,.set ⟨addrOf w,Cm.aav (B++Q j),.row w 125 3 (B++Q j).length⟩]) (fun (w,j)=>4 - j) (w1,0) (Nat.zero_le _) ?_ ?_ ?_
      · dsimp only
        rw [hq0,List.append_nil]
        exact aD
      · dsimp only
        rw [hq0,List.append_nil]
        exact Qw.congr rfl
      (intro ⟨w,j⟩ hj;intro K hK;(conv=>whnf);refine hK _ _ ?_;clear hK K)
      dsimp only at hj ⊢
      have hln:(Cm.aav (B++Q j)).length=(B++Q j).length*3:=Cm.aav_len _
      have hl3:(B++Q j).length≤6005:=by rw [List.length_append];have:=hsl j;omega
      have hj5:j=0∨j=1∨j=2∨j=3∨j=4:=by omega
      rcases hj5 with rfl | rfl | rfl | rfl | rfl
      · have hq:Cm.aav (B++Q 1)=Cm.aav (B++Q 0)++Cm.aav (Cm.set1 0 x1)∧(B++Q 1).length=(B++Q 0).length+(Cm.set1 0 x1).length:=by rw [hq1,← List.append_assoc,Cm.aav_app,List.length_append (bs:=Cm.set1 0 x1)];exact ⟨rfl,rfl⟩
        obtain ⟨e1,e2⟩:=hq
        by_cases h0:0≤x1
        · rw [Cm.set1_yes h0] at e1 e2 hq1
          have e3:(!(Q 1).isEmpty)=true:=by rw [hq1];simp
          generalize hP:B++Q 0=P at *
          generalize Cm.aav P=pa at *
          repeat' first|(refine sxZ ?_;try clear hK K)|refine sxW ?_ ?_<;>intro _|(intro K hK _;conv=>whnf)
          all_goals
            rename_i w2
            refine aC (w2,1) (by show 1≤4;decide) (by show 4 - 1<4 - 0;decide) ?_ (Qw.pre 4 ?_)
            · dsimp only
              rw [e2,e3]
              exact aD
            · simp only [autoM,e1,e2]
              rfl
        · rw [Cm.set1_no h0,show Cm.aav []=[] from rfl,List.append_nil] at e1
          rw [Cm.set1_no h0,List.append_nil] at hq1
          rw [Cm.set1_no h0,List.length_nil,Nat.add_zero] at e2
          have e3:(!(Q 1).isEmpty)=!(Q 0).isEmpty:=by rw [hq1]
          generalize hP:B++Q 0=P at *
          generalize Cm.aav P=pa at *
          repeat' first|(refine sxZ ?_;try clear hK K)|refine sxW ?_ ?_<;>intro _|(intro K hK _;conv=>whnf)
          all_goals first
            | (exfalso;omega)
            | (refine aC (w,1) (by show 1≤4;decide) (by show 4 - 1<4 - 0;decide) ?_ (Qw.pre 4 ?_)
               · dsimp only
                 rw [e2,e3]
                 exact aD
               · simp only [autoM,e1,e2]
                 rfl)
      · have hq:Cm.aav (B++Q 2)=Cm.aav (B++Q 1)++Cm.aav (Cm.set1 1 x2)∧(B++Q 2).length=(B++Q 1).length+(Cm.set1 1 x2).length:=by rw [hq2,← List.append_assoc,Cm.aav_app,List.length_append (bs:=Cm.set1 1 x2)];exact ⟨rfl,rfl⟩
        obtain ⟨e1,e2⟩:=hq
        by_cases h0:0≤x2
        · rw [Cm.set1_yes h0] at e1 e2 hq2
          have e3:(!(Q 2).isEmpty)=true:=by rw [hq2];simp
          generalize hP:B++Q 1=P at *
          generalize Cm.aav P=pa at *
          repeat' first|(refine sxZ ?_;try clear hK K)|refine sxW ?_ ?_<;>intro _|(intro K hK _;conv=>whnf)
          all_goals
            rename_i w2
            refine aC (w2,2) (by show 2≤4;decide) (by show 4 - 2<4 - 1;decide) ?_ (Qw.pre 4 ?_)
            · dsimp only
              rw [e2,e3]
              exact aD
            · simp only [autoM,e1,e2]
              rfl
        · rw [Cm.set1_no h0,show Cm.aav []=[] from rfl,List.append_nil] at e1
          rw [Cm.set1_no h0,List.append_nil] at hq2
          rw [Cm.set1_no h0,List.length_nil,Nat.add_zero] at e2
          have e3:(!(Q 2).isEmpty)=!(Q 1).isEmpty:=by rw [hq2]
          generalize hP:B++Q 1=P at *
          generalize Cm.aav P=pa at *
          repeat' first|(refine sxZ ?_;try clear hK K)|refine sxW ?_ ?_<;>intro _|(intro K hK _;conv=>whnf)
          all_goals first
            | (exfalso;omega)
            | (refine aC (w,2) (by show 2≤4;decide) (by show 4 - 2<4 - 1;decide) ?_ (Qw.pre 4 ?_)
               · dsimp only
                 rw [e2,e3]
                 exact aD
               · simp only [autoM,e1,e2]
                 rfl)
      · have hq:Cm.aav (B++Q 3)=Cm.aav (B++Q 2)++Cm.aav (Cm.set1 2 x3)∧(B++Q 3).length=(B++Q 2).length+(Cm.set1 2 x3).length:=by rw [hq3,← List.append_assoc,Cm.aav_app,List.length_append (bs:=Cm.set1 2 x3)];exact ⟨rfl,rfl⟩
        obtain ⟨e1,e2⟩:=hq
        by_cases h0:0≤x3
        · rw [Cm.set1_yes h0] at e1 e2 hq3
          have e3:(!(Q 3).isEmpty)=true:=by rw [hq3];simp
          generalize hP:B++Q 2=P at *
          generalize Cm.aav P=pa at *
          repeat' first|(refine sxZ ?_;try clear hK K)|refine sxW ?_ ?_<;>intro _|(intro K hK _;conv=>whnf)
          all_goals
            rename_i w2
            refine aC (w2,3) (by show 3≤4;decide) (by show 4 - 3<4 - 2;decide) ?_ (Qw.pre 4 ?_)
            · dsimp only
              rw [e2,e3]
              exact aD
            · simp only [autoM,e1,e2]
              rfl
        · rw [Cm.set1_no h0,show Cm.aav []=[] from rfl,List.append_nil] at e1
          rw [Cm.set1_no h0,List.append_nil] at hq3
          rw [Cm.set1_no h0,List.length_nil,Nat.add_zero] at e2
          have e3:(!(Q 3).isEmpty)=!(Q 2).isEmpty:=by rw [hq3]
          generalize hP:B++Q 2=P at *
          generalize Cm.aav P=pa at *
          repeat' first|(refine sxZ ?_;try clear hK K)|refine sxW ?_ ?_<;>intro _|(intro K hK _;conv=>whnf)
          all_goals first
            | (exfalso;omega)
            | (refine aC (w,3) (by show 3≤4;decide) (by show 4 - 3<4 - 2;decide) ?_ (Qw.pre 4 ?_)
               · dsimp only
                 rw [e2,e3]
                 exact aD
               · simp only [autoM,e1,e2]
                 rfl)
      · have hq:Cm.aav (B++Q 4)=Cm.aav (B++Q 3)++Cm.aav (Cm.set1 3 x4)∧(B++Q 4).length=(B++Q 3).length+(Cm.set1 3 x4).length:=by rw [hq4,← List.append_assoc,Cm.aav_app,List.length_append (bs:=Cm.set1 3 x4)];exact ⟨rfl,rfl⟩
        obtain ⟨e1,e2⟩:=hq
        by_cases h0:0≤x4
        · rw [Cm.set1_yes h0] at e1 e2 hq4
          have e3:(!(Q 4).isEmpty)=true:=by rw [hq4];simp
          generalize hP:B++Q 3=P at *
          generalize Cm.aav P=pa at *
          repeat' first|(refine sxZ ?_;try clear hK K)|refine sxW ?_ ?_<;>intro _|(intro K hK _;conv=>whnf)
          all_goals
            rename_i w2
            refine aC (w2,4) (by show 4≤4;decide) (by show 4 - 4<4 - 3;decide) ?_ (Qw.pre 4 ?_)
            · dsimp only
              rw [e2,e3]
              exact aD
            · simp only [autoM,e1,e2]
              rfl
        · rw [Cm.set1_no h0,show Cm.aav []=[] from rfl,List.append_nil] at e1
          rw [Cm.set1_no h0,List.append_nil] at hq4
          rw [Cm.set1_no h0,List.length_nil,Nat.add_zero] at e2
          have e3:(!(Q 4).isEmpty)=!(Q 3).isEmpty:=by rw [hq4]
          generalize hP:B++Q 3=P at *
          generalize Cm.aav P=pa at *
          repeat' first|(refine sxZ ?_;try clear hK K)|refine sxW ?_ ?_<;>intro _|(intro K hK _;conv=>whnf)
          all_goals first
            | (exfalso;omega)
            | (refine aC (w,4) (by show 4≤4;decide) (by show 4 - 4<4 - 3;decide) ?_ (Qw.pre 4 ?_)
               · dsimp only
                 rw [e2,e3]
                 exact aD
               · simp only [autoM,e1,e2]
                 rfl)
      · have hs2:Tn=(B++Q 4++[⟨2,0,if x0<0 then s0 else x0⟩],!(Q 4).isEmpty):=hs
        generalize hP:B++Q 4=P at *
        generalize (!(Q 4).isEmpty)=fl at *
        by_cases hx:x0<0
        · rw [if_pos hx] at hs2 hb hpos2
          by_cases hc:s0<0
          · rw [hb hc]
            repeat' first|(refine sxZ ?_;try clear hK K)|refine sxW ?_ ?_<;>intro _|(intro K hK _;conv=>whnf)
            all_goals first
              | (exfalso;omega)
              | exact ⟨F,.slice none 0 0,F.le_refl,rfl,(Qw.pre 1 rfl).trans (Qw.nilRow _ _ _)⟩
          · have ea:=Cm.aav_1 P ⟨2,0,s0⟩
            have el:(P++[(⟨2,0,s0⟩:Ac.A)]).length=P.length+1:=by rw [List.length_append];rfl
            generalize Cm.aav P=pa at *
            repeat' first|(refine sxZ ?_;try clear hK K)|refine sxW ?_ ?_<;>intro _|(intro K hK _;conv=>whnf)
            all_goals first
              | (exfalso;omega)
              | (rename_i w2
                 refine aC (w2,i+1) ⟨hlt,hpos2 (by omega)⟩ (by show O.length - (i+1)<O.length - i;omega) ?_ (Qw.pre 3 ?_)
                 · dsimp only
                   rw [hTn,hs2]
                   dsimp only
                   rw [el]
                   exact aD
                 · simp only [autoM,hTn,hs2,ea,el]
                   rfl)
        · rw [if_neg hx] at hs2 hb hpos2
          have ea:=Cm.aav_1 P ⟨2,0,x0⟩
          have el:(P++[(⟨2,0,x0⟩:Ac.A)]).length=P.length+1:=by rw [List.length_append];rfl
          generalize Cm.aav P=pa at *
          repeat' first|(refine sxZ ?_;try clear hK K)|refine sxW ?_ ?_<;>intro _|(intro K hK _;conv=>whnf)
          all_goals first
            | (exfalso;omega)
            | (rename_i w2
               refine aC (w2,i+1) ⟨hlt,hpos2 (by omega)⟩ (by show O.length - (i+1)<O.length - i;omega) ?_ (Qw.pre 3 ?_)
               · dsimp only
                 rw [hTn,hs2]
                 dsimp only
                 rw [el]
                 exact aD
               · simp only [autoM,hTn,hs2,ea,el]
                 rfl)
    · repeat' first|(refine sxZ ?_;try clear hK K)|refine sxW ?_ ?_<;>intro _|(intro K hK _;conv=>whnf)
      rename_i w1
      have hs:Tn=(o++[⟨3,0,0⟩]++Q 4++[⟨2,0,if x0<0 then s0 else x0⟩],!(Q 4).isEmpty):=hs
      have eB:=Cm.aav_1 o ⟨3,0,0⟩
      have lB:(o++[(⟨3,0,0⟩:Ac.A)]).length=o.length+1:=by rw [List.length_append];rfl
      generalize o++[(⟨3,0,0⟩:Ac.A)]=B at *
      have hl1:B.length≤6001:=by omega
      refine aE (α:=Value × Nat) (fun (w,j)=>j≤4) (fun (w,j)=>[.k,.k,.k,.k,.set (.sl 2 w (B++Q j).length),.set (.bool (!(Q j).isEmpty)),.k,.k,.d,.d,.k,.k,.k,.k,.k,.k,.k,.k,.k,.k,.k,.k,.k,.k,.k,.set (.int .i64 j),.d,.d,.d,.d,.d,.d,.d,.d,.d,.d,.d,.d,.k,.k,.k,.k,.k,.k,.k,.k,.k,.k,.k,.k,.k,.k,.k,.k,.k,.k])
        (fun (w,j)=>[.k,.k,.set ⟨addrOf w,Cm.aav (B++Q j),.row w 125 3 (B++Q j).length⟩]) (fun (w,j)=>4 - j) (w1,0) (Nat.zero_le _) ?_ ?_ ?_
      · dsimp only
        rw [hq0,List.append_nil]
        rw [lB]
        exact aD
      · dsimp only
        rw [hq0,List.append_nil]
        rw [lB,eB]
        exact Qw.congr rfl
      (intro ⟨w,j⟩ hj;intro K hK;(conv=>whnf);refine hK _ _ ?_;clear hK K)
      dsimp only at hj ⊢
      have hln:(Cm.aav (B++Q j)).length=(B++Q j).length*3:=Cm.aav_len _
      have hl3:(B++Q j).length≤6005:=by rw [List.length_append];have:=hsl j;omega
      have hj5:j=0∨j=1∨j=2∨j=3∨j=4:=by omega
      rcases hj5 with rfl | rfl | rfl | rfl | rfl
      · have hq:Cm.aav (B++Q 1)=Cm.aav (B++Q 0)++Cm.aav (Cm.set1 0 x1)∧(B++Q 1).length=(B++Q 0).length+(Cm.set1 0 x1).length:=by rw [hq1,← List.append_assoc,Cm.aav_app,List.length_append (bs:=Cm.set1 0 x1)];exact ⟨rfl,rfl⟩
        obtain ⟨e1,e2⟩:=hq
        by_cases h0:0≤x1
        · rw [Cm.set1_yes h0] at e1 e2 hq1
          have e3:(!(Q 1).isEmpty)=true:=by rw [hq1];simp
          generalize hP:B++Q 0=P at *
          generalize Cm.aav P=pa at *
          repeat' first|(refine sxZ ?_;try clear hK K)|refine sxW ?_ ?_<;>intro _|(intro K hK _;conv=>whnf)
          all_goals
            rename_i w2
            refine aC (w2,1) (by show 1≤4;decide) (by show 4 - 1<4 - 0;decide) ?_ (Qw.pre 5 ?_)
            · dsimp only
              rw [e2,e3]
              exact aD
            · simp only [autoM,e1,e2]
              rfl
        · rw [Cm.set1_no h0,show Cm.aav []=[] from rfl,List.append_nil] at e1
          rw [Cm.set1_no h0,List.append_nil] at hq1
          rw [Cm.set1_no h0,List.length_nil,Nat.add_zero] at e2
          have e3:(!(Q 1).isEmpty)=!(Q 0).isEmpty:=by rw [hq1]
          generalize hP:B++Q 0=P at *
          generalize Cm.aav P=pa at *
          repeat' first|(refine sxZ ?_;try clear hK K)|refine sxW ?_ ?_<;>intro _|(intro K hK _;conv=>whnf)
          all_goals first
            | (exfalso;omega)
            | (refine aC (w,1) (by show 1≤4;decide) (by show 4 - 1<4 - 0;decide) ?_ (Qw.pre 5 ?_)
               · dsimp only
                 rw [e2,e3]
                 exact aD
               · simp only [autoM,e1,e2]
                 rfl)
      · have hq:Cm.aav (B++Q 2)=Cm.aav (B++Q 1)++Cm.aav (Cm.set1 1 x2)∧(B++Q 2).length=(B++Q 1).length+(Cm.set1 1 x2).length:=by rw [hq2,← List.append_assoc,Cm.aav_app,List.length_append (bs:=Cm.set1 1 x2)];exact ⟨rfl,rfl⟩
        obtain ⟨e1,e2⟩:=hq
        by_cases h0:0≤x2
        · rw [Cm.set1_yes h0] at e1 e2 hq2
          have e3:(!(Q 2).isEmpty)=true:=by rw [hq2];simp
          generalize hP:B++Q 1=P at *
          generalize Cm.aav P=pa at *
          repeat' first|(refine sxZ ?_;try clear hK K)|refine sxW ?_ ?_<;>intro _|(intro K hK _;conv=>whnf)
          all_goals
            rename_i w2
            refine aC (w2,2) (by show 2≤4;decide) (by show 4 - 2<4 - 1;decide) ?_ (Qw.pre 5 ?_)
            · dsimp only
              rw [e2,e3]
              exact aD
            · simp only [autoM,e1,e2]
              rfl
        · rw [Cm.set1_no h0,show Cm.aav []=[] from rfl,List.append_nil] at e1
          rw [Cm.set1_no h0,List.append_nil] at hq2
          rw [Cm.set1_no h0,List.length_nil,Nat.add_zero] at e2
          have e3:(!(Q 2).isEmpty)=!(Q 1).isEmpty:=by rw [hq2]
          generalize hP:B++Q 1=P at *
          generalize Cm.aav P=pa at *
          repeat' first|(refine sxZ ?_;try clear hK K)|refine sxW ?_ ?_<;>intro _|(intro K hK _;conv=>whnf)
          all_goals first
            | (exfalso;omega)
            | (refine aC (w,2) (by show 2≤4;decide) (by show 4 - 2<4 - 1;decide) ?_ (Qw.pre 5 ?_)
               · dsimp only
                 rw [e2,e3]
                 exact aD
               · simp only [autoM,e1,e2]
                 rfl)
      · have hq:Cm.aav (B++Q 3)=Cm.aav (B++Q 2)++Cm.aav (Cm.set1 2 x3)∧(B++Q 3).length=(B++Q 2).length+(Cm.set1 2 x3).length:=by rw [hq3,← List.append_assoc,Cm.aav_app,List.length_append (bs:=Cm.set1 2 x3)];exact ⟨rfl,rfl⟩
        obtain ⟨e1,e2⟩:=hq
        by_cases h0:0≤x3
        · rw [Cm.set1_yes h0] at e1 e2 hq3
          have e3:(!(Q 3).isEmpty)=true:=by rw [hq3];simp
          generalize hP:B++Q 2=P at *
          generalize Cm.aav P=pa at *
          repeat' first|(refine sxZ ?_;try clear hK K)|refine sxW ?_ ?_<;>intro _|(intro K hK _;conv=>whnf)
          all_goals
            rename_i w2
            refine aC (w2,3) (by show 3≤4;decide) (by show 4 - 3<4 - 2;decide) ?_ (Qw.pre 5 ?_)
            · dsimp only
              rw [e2,e3]
              exact aD
            · simp only [autoM,e1,e2]
              rfl
        · rw [Cm.set1_no h0,show Cm.aav []=[] from rfl,List.append_nil] at e1
          rw [Cm.set1_no h0,List.append_nil] at hq3
          rw [Cm.set1_no h0,List.length_nil,Nat.add_zero] at e2
          have e3:(!(Q 3).isEmpty)=!(Q 2).isEmpty:=by rw [hq3]
          generalize hP:B++Q 2=P at *
          generalize Cm.aav P=pa at *
          repeat' first|(refine sxZ ?_;try clear hK K)|refine sxW ?_ ?_<;>intro _|(intro K hK _;conv=>whnf)
          all_goals first
            | (exfalso;omega)
            | (refine aC (w,3) (by show 3≤4;decide) (by show 4 - 3<4 - 2;decide) ?_ (Qw.pre 5 ?_)
               · dsimp only
                 rw [e2,e3]
                 exact aD
               · simp only [autoM,e1,e2]
                 rfl)
      · have hq:Cm.aav (B++Q 4)=Cm.aav (B++Q 3)++Cm.aav (Cm.set1 3 x4)∧(B++Q 4).length=(B++Q 3).length+(Cm.set1 3 x4).length:=by rw [hq4,← List.append_assoc,Cm.aav_app,List.length_append (bs:=Cm.set1 3 x4)];exact ⟨rfl,rfl⟩
        obtain ⟨e1,e2⟩:=hq
        by_cases h0:0≤x4
        · rw [Cm.set1_yes h0] at e1 e2 hq4
          have e3:(!(Q 4).isEmpty)=true:=by rw [hq4];simp
          generalize hP:B++Q 3=P at *
          generalize Cm.aav P=pa at *
          repeat' first|(refine sxZ ?_;try clear hK K)|refine sxW ?_ ?_<;>intro _|(intro K hK _;conv=>whnf)
          all_goals
            rename_i w2
            refine aC (w2,4) (by show 4≤4;decide) (by show 4 - 4<4 - 3;decide) ?_ (Qw.pre 5 ?_)
            · dsimp only
              rw [e2,e3]
              exact aD
            · simp only [autoM,e1,e2]
              rfl
        · rw [Cm.set1_no h0,show Cm.aav []=[] from rfl,List.append_nil] at e1
          rw [Cm.set1_no h0,List.append_nil] at hq4
          rw [Cm.set1_no h0,List.length_nil,Nat.add_zero] at e2
          have e3:(!(Q 4).isEmpty)=!(Q 3).isEmpty:=by rw [hq4]
          generalize hP:B++Q 3=P at *
          generalize Cm.aav P=pa at *
          repeat' first|(refine sxZ ?_;try clear hK K)|refine sxW ?_ ?_<;>intro _|(intro K hK _;conv=>whnf)
          all_goals first
            | (exfalso;omega)
            | (refine aC (w,4) (by show 4≤4;decide) (by show 4 - 4<4 - 3;decide) ?_ (Qw.pre 5 ?_)
               · dsimp only
                 rw [e2,e3]
                 exact aD
               · simp only [autoM,e1,e2]
                 rfl)
      · have hs2:Tn=(B++Q 4++[⟨2,0,if x0<0 then s0 else x0⟩],!(Q 4).isEmpty):=hs
        generalize hP:B++Q 4=P at *
        generalize (!(Q 4).isEmpty)=fl at *
        by_cases hx:x0<0
        · rw [if_pos hx] at hs2 hb hpos2
          by_cases hc:s0<0
          · rw [hb hc]
            repeat' first|(refine sxZ ?_;try clear hK K)|refine sxW ?_ ?_<;>intro _|(intro K hK _;conv=>whnf)
            all_goals first
              | (exfalso;omega)
              | exact ⟨F,.slice none 0 0,F.le_refl,rfl,(Qw.pre 1 rfl).trans (Qw.nilRow _ _ _)⟩
          · have ea:=Cm.aav_1 P ⟨2,0,s0⟩
            have el:(P++[(⟨2,0,s0⟩:Ac.A)]).length=P.length+1:=by rw [List.length_append];rfl
            generalize Cm.aav P=pa at *
            repeat' first|(refine sxZ ?_;try clear hK K)|refine sxW ?_ ?_<;>intro _|(intro K hK _;conv=>whnf)
            all_goals first
              | (exfalso;omega)
              | (rename_i w2
                 refine aC (w2,i+1) ⟨hlt,hpos2 (by omega)⟩ (by show O.length - (i+1)<O.length - i;omega) ?_ (Qw.pre 3 ?_)
                 · dsimp only
                   rw [hTn,hs2]
                   dsimp only
                   rw [el]
                   exact aD
                 · simp only [autoM,hTn,hs2,ea,el]
                   rfl)
        · rw [if_neg hx] at hs2 hb hpos2
          have ea:=Cm.aav_1 P ⟨2,0,x0⟩
          have el:(P++[(⟨2,0,x0⟩:Ac.A)]).length=P.length+1:=by rw [List.length_append];rfl
          generalize Cm.aav P=pa at *
          repeat' first|(refine sxZ ?_;try clear hK K)|refine sxW ?_ ?_<;>intro _|(intro K hK _;conv=>whnf)
          all_goals first
            | (exfalso;omega)
            | (rename_i w2
               refine aC (w2,i+1) ⟨hlt,hpos2 (by omega)⟩ (by show O.length - (i+1)<O.length - i;omega) ?_ (Qw.pre 3 ?_)
               · dsimp only
                 rw [hTn,hs2]
                 dsimp only
                 rw [el]
                 exact aD
               · simp only [autoM,hTn,hs2,ea,el]
                 rfl)
  · obtain rfl:i=O.length:=by omega
    have hg:=hgood fun s hs=>by
      obtain ⟨j,hj,e⟩:=List.getElem_of_mem hs
      rw [← e]
      exact hpos j hj hj
    rw [hg]
    by_cases h16:(T O.length).1.length>16
    · rw [if_pos h16]
      repeat' first|(refine sxZ ?_;try clear hK K)|refine sxW ?_ ?_<;>intro _|(intro K hK _;conv=>whnf)
      all_goals first
        | (exfalso;omega)
        | exact ⟨F,.slice none 0 0,F.le_refl,rfl,(Qw.pre 1 rfl).trans (Qw.nilRow _ _ _)⟩
    · rw [if_neg h16]
      repeat' first|(refine sxZ ?_;try clear hK K)|refine sxW ?_ ?_<;>intro _|(intro K hK _;conv=>whnf)
      all_goals first
        | (exfalso;omega)
        | exact ⟨F,w,F.le_refl,rfl,Qw.pick [0,2] (by decide) rfl⟩
end Go.Proofs.YtmehinfgdcmmjaaGreatDoor
