/- A part of the proof. -/
import Derived.Test.YtmehinfgdcmmjaaGreatDoorTJ26
import Derived.Test.YtmehinfgdcmmjaaGreatDoorTJ15
import Derived.Test.YtmehinfgdcmmjaaGreatDoorTJ21
import Derived.Test.YtmehinfgdcmmjaaGreatDoorTCk6
import Derived.Test.YtmehinfgdcmmjaaGreatDoorTJ13
import Derived.Test.YtmehinfgdcmmjaaGreatDoorTJ31
import Derived.Test.YtmehinfgdcmmjaaGreatDoorTJ14
namespace Go.Proofs.YtmehinfgdcmmjaaGreatDoor
open Go.Sx
set_option maxRecDepth 20000
set_option linter.unusedSimpArgs false
set_option linter.unusedVariables false
set_option maxHeartbeats 4000000
namespace Ps
def out {α:Type} (z:α) (q:List Lx.B→R α):Lx.O→α × Int × Int
 | .bad a e=>(z,a,e)
 | .ok l=>match whole (l.map Lx.b) (q (l.map Lx.b)) with
  | .ok x _=>(x,0,0)
  | .bad j=>(z,(l[j]?.getD ⟨4,0,[],0⟩).at_,10)
def zero27:Po.T:=.mk 0 none26 0 0 []
def q27 (l:List Lx.B):R Po.T:=rows l (step l l.length) 0
def out27 (tx:List UInt8):Po.T × Int × Int:=out zero27 q27 (Lx.all tx)
theorem nil26 (G:Heap):Pd.Row G (.slice none 0 0) []:=aI.nil
theorem nil27 (G:Heap):Po.Row G (.slice none 0 0) []:=aI.nil
end Ps
theorem jR (g:FuncId) (tx:List UInt8) (hs:tx.length≤4000) (a e:Int) (hb:Lx.all tx = .bad a e) (he:e≠0) (F:Heap) :
  Qz Tryz.prog 87 [.str tx,.fn g [] []] [hpB F] fun r m=>r = .tup [.agg [.int .i64 0,.int .i64 0,.int .i64 0,.int .i64 0,.raw (.slice none 0 0),.int .i64 0,.int .i64 0,.raw (.slice none 0 0)],.int .i64 a,.int .i64 e]∧m=[hpB F]:=by
 refine Qz.fits (K:=fun r m=>r.den=(AV.tup [.agg [.int .i64 0,.int .i64 0,.int .i64 0,.int .i64 0,.raw (.slice none 0 0),.int .i64 0,.int .i64 0,.raw (.slice none 0 0)],.int .i64 a,.int .i64 e]).den∧Qw m [hpB F]) ?_ fun r m' hq=>⟨_,_,hq.1.symm,hq.2,rfl,rfl⟩
 have clex:Qz Tryz.prog 125 [.str tx] [hpB F] fun r m=>m=[hpB F]∧r = .tup [.hs (.slice none 0 0) 0,.int .i64 a,.int .i64 e]:=(od F tx hs).mono fun r m h=>by
  rcases h with ⟨l,F',v,h1,_⟩ | ⟨a',e',h1,h2,h3⟩
  ·rw [hb] at h1;cases h1
  ·rw [hb] at h1
   cases h1
   exact ⟨h2,h3⟩
 refine de Tryz.func87 rfl (by decide) (fun K hK=>?_)
 conv=>whnf
 refine hK _ ?_
 clear hK K
 refine eN (lV ?_)
 repeat' first|(refine ah ?_;(try clear hP hK Kp K);try clear hK K)|refine sxW ?_ ?_<;>intro _|(intro K Kp hK hP _;conv=>whnf)|(intro K hK _;conv=>whnf)
 refine eN (lV ?_)
 repeat' first|(intro K Kp hK hP;(with_reducible refine gCX ?_);(refine aH.of ?_;first|(refine cN [0] clex ?_;rintro _ _ ⟨rfl,rfl⟩;refine cR ?_)))|(refine ah ?_;(try clear hP hK Kp K);try clear hK K)|refine sxW ?_ ?_<;>intro _|(intro K Kp hK hP _;conv=>whnf)|(intro K hK _;conv=>whnf)
 refine eN (lV ?_)
 repeat' first|((first|intro A B hA hB|intro K hK|skip);first|((with_reducible refine NIf.yes ?s ?_);(case s=>simp ;done);conv=>whnf)|((with_reducible refine NIf.no ?s ?_);(case s=>simp ;done);conv=>whnf))|(refine qh ?_;(try clear hP hK Kp K);(try clear hK K);try clear hA hB A B)|refine sxW ?_ ?_<;>intro _|refine qg ?_ ?_|(intro K Kp hK hP _;conv=>whnf)|(intro K hK _;conv=>whnf)
 all_goals (refine ob ?_;conv=>whnf)
 all_goals (repeat' first|(refine ah ?_;(try clear hP hK Kp K);try clear hK K)|refine sxW ?_ ?_<;>intro _|(intro K Kp hK hP _;conv=>whnf)|(intro K hK _;conv=>whnf))
 all_goals exact ⟨rfl,Qw.pre 1 rfl⟩
theorem jr (tx:List UInt8) (hs:tx.length≤4000) (a e:Int) (hb:Lx.all tx = .bad a e) (he:e≠0) (F:Heap) :
  Qz Tryz.prog 49 [.str tx] [hpB F] fun r m=>r = .tup [.agg [.int .i64 0,.int .i64 0,.int .i64 0,.int .i64 0,.raw (.slice none 0 0),.int .i64 0,.int .i64 0,.raw (.slice none 0 0)],.int .i64 a,.int .i64 e]∧m=[hpB F]:=by
 refine Qz.fits (K:=fun r m=>r.den=(AV.tup [.agg [.int .i64 0,.int .i64 0,.int .i64 0,.int .i64 0,.raw (.slice none 0 0),.int .i64 0,.int .i64 0,.raw (.slice none 0 0)],.int .i64 a,.int .i64 e]).den∧Qw m [hpB F]) ?_ fun r m' hq=>⟨_,_,hq.1.symm,hq.2,rfl,rfl⟩
 have cw:=jR 88 tx hs a e hb he F
 refine aB Tryz.func49 rfl (by decide) ?_
 repeat' first|(intro K hK;(with_reducible refine gC ?_);(refine cN [0] cw ?_;rintro _ _ ⟨rfl,rfl⟩;refine cR ?_))|(refine sxZ ?_;try clear hK K)|refine sxW ?_ ?_<;>intro _|(intro K hK _;conv=>whnf)
 all_goals exact ⟨rfl,Qw.pre 1 rfl⟩
theorem jt (tx:List UInt8) (hs:tx.length≤4000) (F:Heap) :
  Qz Tryz.prog 49 [.str tx] [hpB F] fun r m=>∃ G pu u,F.le G∧Po.At G (Ps.out27 tx).1 pu u∧r = .tup [.agg (Po.cs (Ps.out27 tx).1 pu u),.int .i64 (Ps.out27 tx).2.1,.int .i64 (Ps.out27 tx).2.2]∧m=[hpB G]:=by
 have bad:∀ a e,Lx.all tx = .bad a e→e≠0→Qz Tryz.prog 49 [.str tx] [hpB F] fun r m=>∃ G pu u,F.le G∧Po.At G (Ps.out27 tx).1 pu u∧r = .tup [.agg (Po.cs (Ps.out27 tx).1 pu u),.int .i64 (Ps.out27 tx).2.1,.int .i64 (Ps.out27 tx).2.2]∧m=[hpB G]:=fun a e hb he=>by
  refine Qz.fits (jr tx hs a e hb he F) fun r m ⟨h1,h2⟩=>?_
  have ho:Ps.out27 tx=(Ps.zero27,a,e):=by unfold Ps.out27;rw [hb];rfl
  rw [ho,h1,h2]
  exact ⟨.tup [.agg (Po.cs Ps.zero27 (.slice none 0 0) (.slice none 0 0)),.int .i64 _,.int .i64 _],_,rfl,Qw.eq rfl,F,_,_,F.le_refl,⟨Ps.nil26 _,Ps.nil27 _⟩,rfl,rfl⟩
 rcases Lx.all_cases tx with ⟨L,hL,hl,ha⟩ | ⟨_,a,hb⟩ | ⟨_,a,hb⟩
 ·refine Qz.fits (mz tx hs L hL hl F) fun r m h=>?_
  have ho:Ps.out27 tx=Ps.out Ps.zero27 Ps.q27 (.ok (Lx.res tx L)):=by unfold Ps.out27;rw [ha]
  rcases h with ⟨x,G,pu,u,h1,h2,h3,h4,h5⟩ | ⟨j,y,G,h1,h2,h3,h4,h5⟩
  ·have ho:Ps.out27 tx=(x,0,0):=by
    rw [ho,Ps.out]
    unfold Ps.q27
    rw [h1]
   rw [ho,h4,h5]
   exact ⟨_,_,rfl,Qw.eq rfl,G,pu,u,h2,h3,rfl,rfl⟩
  ·have ho:Ps.out27 tx=(Ps.zero27,y.at_,10):=by
    rw [ho,Ps.out]
    unfold Ps.q27
    rw [h1]
    dsimp only
    rw [h2]
    rfl
   rw [ho,h4,h5]
   exact ⟨.tup [.agg (Po.cs Ps.zero27 (.slice none 0 0) (.slice none 0 0)),.int .i64 _,.int .i64 _],_,rfl,Qw.eq rfl,G,_,_,h3,⟨Ps.nil26 _,Ps.nil27 _⟩,rfl,rfl⟩
 ·exact bad a 10 hb (by decide)
 ·exact bad a 6 hb (by decide)
namespace Cm
def TR (F:Heap) (T:List Ru.R) (us:List Value):Prop:=∃ A cap,Row F (.slice A T.length cap) T∧us=[.slice A T.length cap]
abbrev TRow (F:Heap) (v:Value) (l:List (List Ru.R)):Prop:=aI F 1 (TR F) v l
theorem TRow.get {F:Heap} {v:Value} {l:List (List Ru.R)} (h:TRow F v l) {i:Nat} {T:List Ru.R} (hx:l[i]?=some T):∃ A cap,Row F (.slice A T.length cap) T∧F.c ((addrOf v).add i) (.slice A T.length cap):=by
 obtain ⟨us,h1,_,h2⟩:=h.at_ i T hx
 obtain ⟨A,cap,h3,rfl⟩:=h1
 rw [Nat.mul_one] at h2
 exact ⟨A,cap,h3,h2.1⟩
def tC (p:List Ru.R × Value):List AV:=[.hs p.2 p.1.length]
def tV (p:List Ru.R × Value):List Value:=denL (tC p)
theorem tC_den (ps:List (List Ru.R × Value)):denL (ps.flatMap tC)=ps.flatMap tV:=by
 induction ps with
 | nil=>rfl
 | cons x l ih=>rw [List.flatMap_cons,List.flatMap_cons,aS,ih];rfl
theorem tC_len (ps:List (List Ru.R × Value)):(ps.flatMap tC).length=ps.length*1:=by
 induction ps with
 | nil=>rfl
 | cons x l ih=>rw [List.flatMap_cons,List.length_append,ih,List.length_cons];simp only [tC,List.length_cons,List.length_nil];omega
theorem trow_of {G:Heap} {u:Value} {ps:List (List Ru.R × Value)} (h:aI G 1 (fun p vs=>vs=tV p) u ps) (hall:∀ p∈ps,Row G p.2 p.1):TRow G u (ps.map (·.1)):=by
 refine ⟨by rw [List.length_map];exact h.ok,fun k x hx=>?_⟩
 rw [List.getElem?_map] at hx
 cases hp:ps[k]? with
 | none=>rw [hp] at hx;cases hx
 | some p =>
  rw [hp] at hx
  simp only [Option.map_some,Option.some.injEq] at hx
  subst hx
  obtain ⟨vs,h1,h2,h3⟩:=h.at_ k p hp
  have hr:=hall p (List.mem_of_getElem? hp)
  refine ⟨vs,?_,h2,h3⟩
  obtain ⟨A,cap,hv,hle,hz⟩:=hr.ok
  rw [h1]
  obtain ⟨x,w⟩:=p
  dsimp only at hv hr ⊢
  subst hv
  exact ⟨A,cap,hr,rfl⟩
def tb (x:Po.T) (room:Int) (i:Nat):List Ru.R × Int:=tbl (Tr.ans i x).1 (Tr.ans i x).2 room
def tabs (x:Po.T) (room:Int):Nat→Nat→List (List Ru.R)→List (List Ru.R) × Int × Int
 | 0,_,acc=>(acc,0,0)
 | k+1,i,acc=>if (tb x room i).2=0 then tabs x room k (i+1) (acc++[(tb x room i).1]) else ([],i,(tb x room i).2)
def comp (bt:Bool) (t:Tp.T) (o:Po.T × Int × Int) (room:Int):List (List Ru.R) × Int × Int :=
 if o.2.2≠0 then ([],o.2.1,o.2.2) else if Po.check bt t o.1≠0 then ([],0,Po.check bt t o.1) else tabs o.1 room t.n.toNat 0 []
structure Fit (x:Po.T):Prop where
 tot:Po.tot x≤1000000000
 ce:∀ sw,Po.right x=true→Po.cells (Po.spec sw x)≤4096
 cn:∀ sw,Po.right x=true→Tr.cnt (Po.spec sw x) Tr.order≤1000000
 len:∀ sw,(Tr.ans sw x).1.length≤1000
 out:∀ sw,∀ c∈(Tr.ans sw x).1,c.out.length≤1000
end Cm
theorem kb (F:Heap) (tx:List UInt8) (htx:tx.length≤4000) (t:Tp.T) (lv hv:Value) (bt:Bool) (ht:Tp.At F t lv hv) (hl:t.ls.length≤1000) (hh:t.hs.length≤1000)
  (cr:∀ G,F.le G→Qz Tryz.prog 90 [.agg (Tp.cs t lv hv)] [hpB G] fun r m=>r = .bool bt∧m=[hpB G]) (hbt:bt=true→t.n≤8) (room:Int) (hf:(Ps.out27 tx).2.2=0→Cm.Fit (Ps.out27 tx).1) (htot:Po.tot (Ps.out27 tx).1≤2932031007402) :
  Qz Tryz.prog 24 [.str tx,.agg (Tp.cs t lv hv),.int .i64 room] [hpB F] fun r m=>∃ G v,F.le G∧Cm.TRow G v (Cm.comp bt t (Ps.out27 tx) room).1∧r = .tup [.hs v (Cm.comp bt t (Ps.out27 tx) room).1.length,.int .i64 (Cm.comp bt t (Ps.out27 tx) room).2.1,.int .i64 (Cm.comp bt t (Ps.out27 tx) room).2.2]∧m=[hpB G]:=by
 refine Go.Sx.Qz.know (K:=fun r m'=>∃ G v,∃ ps:List (List Ru.R × Value),F.le G∧ps.map (·.1)=(Cm.comp bt t (Ps.out27 tx) room).1∧(∀ p∈ps,Cm.Row G p.2 p.1)∧r.den=(AV.tup [.raw (aw v),.int .i64 (Cm.comp bt t (Ps.out27 tx) room).2.1,.int .i64 (Cm.comp bt t (Ps.out27 tx) room).2.2]).den∧Qw m' [hpB G,⟨addrOf v,ps.flatMap Cm.tC,.row v 33 1 ps.length⟩]) ?_ fun r m' ⟨G,u,ps,hle,hmap,hall,hr,hm⟩ ⟨w,hw⟩=>?_
 rotate_left
 ·have hok:=((hm w hw).1.row (List.mem_cons_of_mem _ (List.mem_cons_self ..))).1
  have hrow:=aM (F:=G) (sz:=1) (enc:=Cm.tV) hok (Cm.tC_den ps) (fun x _=>rfl)
  have hR:=Cm.trow_of hrow fun p hp=>Cm.Row.mono addF.old (hall p hp)
  rw [hmap] at hR
  refine ⟨.tup [.hs u (Cm.comp bt t (Ps.out27 tx) room).1.length,.int .i64 (Cm.comp bt t (Ps.out27 tx) room).2.1,.int .i64 (Cm.comp bt t (Ps.out27 tx) room).2.2],_,by rw [hr];rfl,hm.trans (Qw.freeze (m:=[])),_,u,hle.trans addF.old,hR,rfl,rfl⟩
 have cp:=jt tx htx F
 generalize Ps.out27 tx=o at *
 obtain ⟨x,at_,e⟩:=o
 dsimp only at cp hf htot
 have cp:=cp.mono (K':=fun r m=>∃ G pu u,F.le G∧Po.At G x pu u∧(SlOk pu x.p.l.length∧SlOk u x.l.length)∧r = .tup [.agg (Po.cs x pu u),.int .i64 at_,.int .i64 e]∧m=[hpB G]) fun r m ⟨G,pu,u,h1,h2,h3,h4⟩=>⟨G,pu,u,h1,h2,⟨h2.p.ok,h2.l.ok⟩,h3,h4⟩
 have cc:=fun G pu u (hG:F.le G) (hx:Po.At G x pu u)=>ne G t lv hv x pu u bt (Tp.At.mono hG ht) hl hh htot hx (cr G hG)
 have cT:=fun (hf:Cm.Fit x) G pu u (sw:Nat) (hx:Po.At G x pu u)=>gu G x pu u sw room hf.tot hx (hf.ce sw) (hf.cn sw) (hf.len sw) (hf.out sw)
 have hlo:=ht.l.ok
 have hho:=ht.h.ok
 have hcm:Cm.comp bt t (x,at_,e) room=if e≠0 then ([],at_,e) else if Po.check bt t x≠0 then ([],0,Po.check bt t x) else Cm.tabs x room t.n.toNat 0 []:=rfl
 have hn8:Po.check bt t x=0→t.n≤8:=fun h=>hbt (by
  unfold Po.check at h
  cases bt with
  | true=>rfl
  | false=>rw [if_pos rfl] at h;exact absurd h (by decide))
 have htab:∀ k i acc,Cm.tabs x room (k+1) i acc=if (Cm.tb x room i).2=0 then Cm.tabs x room k (i+1) (acc++[(Cm.tb x room i).1]) else ([],i,(Cm.tb x room i).2):=fun _ _ _=>rfl
 have htab0:∀ i acc,Cm.tabs x room 0 i acc=(acc,0,0):=fun _ _=>rfl
 have cT:∀ (hf:Cm.Fit x) G pu u (sw:Nat) (hx:Po.At G x pu u),Qz Tryz.prog 9 [.agg (Po.cs x pu u),.int .i64 sw,.int .i64 room] [hpB G] fun r m=>Cm.GivesT G (Cm.tb x room sw) r m:=cT
 rw [hcm]
 generalize Po.check bt t x=ck at *
 generalize Cm.tb x room=TB at *
 generalize Cm.tabs x room=TS at *
 clear hcm cr ht
 have hAm:=fun (G G':Heap) (a b:Value) (h:G.le G') (h2:Po.At G x a b)=>Po.At.mono h h2
 obtain ⟨k,⟨pk,pf,pv,pl⟩,a,v,l⟩:=x
 obtain ⟨n,ls,hs⟩:=t
 simp only [aY,Tp.cs,Po.T.l,Po.T.p,Pd.T.k,Pd.T.f,Pd.T.v,Pd.T.l,Cm.GivesT] at *
 refine aB Tryz.func24 rfl (by decide) ?_
 by_cases he:e=0
 rotate_left
 ·rw [if_pos he]
  repeat' first|((try intro K hK);(with_reducible refine gC ?_);(refine cN [0] cp ?_;rintro _ _ ⟨G,pu,u,h1,h2,⟨h3,h4⟩,rfl,rfl⟩;refine cR ?_))|((first|intro A B hA hB|intro K hK|skip);first|((with_reducible refine NIf.yes ?s ?_);(case s=>simp [he];done);conv=>whnf)|((with_reducible refine NIf.no ?s ?_);(case s=>simp [he];done);conv=>whnf))|(refine sxZ ?_;(try clear hK K);try clear hA hB A B)|refine sxW ?_ ?_<;>intro _|(intro K hK _;conv=>whnf)
  all_goals first | (exfalso;omega) | exact ⟨G,.slice none 0 0,[],h1,rfl,fun p hp=>(by cases hp),rfl,(Qw.pre 1 rfl).trans (Qw.nilRow _ _ _)⟩
 subst he
 rw [if_neg (by simp)]
 by_cases hck:ck=0
 rotate_left
 ·rw [if_pos hck]
  repeat' first|((try intro K hK);(with_reducible refine gC ?_);first|(refine cN [0] cp ?_;rintro _ _ ⟨G,pu,u,h1,h2,⟨h3,h4⟩,rfl,rfl⟩;refine cR ?_)|refine cS [0] (cc G pu u h1 h2) ?_)|((first|intro A B hA hB|intro K hK|skip);first|((with_reducible refine NIf.yes ?s ?_);(case s=>simp [hck];done);conv=>whnf)|((with_reducible refine NIf.no ?s ?_);(case s=>simp [hck];done);conv=>whnf))|(refine sxZ ?_;(try clear hK K);try clear hA hB A B)|refine sxW ?_ ?_<;>intro _|(intro K hK _;conv=>whnf)
  all_goals first | (exfalso;omega) | exact ⟨G,.slice none 0 0,[],h1,rfl,fun p hp=>(by cases hp),rfl,(Qw.pre 1 rfl).trans (Qw.nilRow _ _ _)⟩
 subst hck
 rw [if_neg (by simp)]
 have hfx:=hf rfl
 have hn8:=hn8 rfl
 repeat' first|((try intro K hK);(with_reducible refine gC ?_);first|(refine cN [0] cp ?_;rintro _ _ ⟨G,pu,u,h1,h2,⟨h3,h4⟩,rfl,rfl⟩;refine cR ?_)|refine cS [0] (cc G pu u h1 h2) ?_)|((first|intro A B hA hB|intro K hK|skip);first|((with_reducible refine NIf.yes ?s ?_);(case s=>simp ;done);conv=>whnf)|((with_reducible refine NIf.no ?s ?_);(case s=>simp ;done);conv=>whnf))|(refine sxZ ?_;(try clear hK K);try clear hA hB A B)|refine sxW ?_ ?_<;>intro _|(intro K hK _;conv=>whnf)
 all_goals try (exfalso;omega)
 refine aE (α:=Heap × Value × List (List Ru.R × Value) × Nat) (fun (G',w,ps,i)=>i≤n.toNat∧G.le G'∧(∀ p∈ps,Cm.Row G' p.2 p.1)∧ps.length=i∧TS n.toNat 0 []=TS (n.toNat - i) i (ps.map (·.1))) (fun (G',w,ps,i)=>[.k,.k,.k,.k,.k,.k,.d,.d,.d,.k,.k,.k,.k,.set (.sl 3 w ps.length),.d,.d,.d,.k,.k,.k,.k,.k,.k,.k,.k,.k,.k,.k,.k,.k,.k,.k,.k,.k,.k,.set (.int .i64 i),.d,.d,.d,.d,.d,.d,.d,.d,.d,.d,.d,.d,.d,.d,.d,.d,.d,.d,.k])
  (fun (G',w,ps,i)=>[.set (hpB G'),.k,.k,.set ⟨addrOf w,ps.flatMap Cm.tC,.row w 33 1 ps.length⟩]) (fun (G',w,ps,i)=>n.toNat - i) (G,.slice none 0 0,[],0) ⟨Nat.zero_le _,G.le_refl,fun p hp=>(by cases hp),rfl,rfl⟩ ?_ ?_ ?_
 ·exact aD
 ·exact (Qw.nilRow _ 33 1).trans (Qw.congr rfl)
 (intro ⟨G',w,ps,i⟩ ⟨hi,hle,hall,hpl,hts⟩;intro K hK;(conv=>whnf);refine hK _ _ ?_;clear hK K)
 dsimp only at hi hle hall hpl hts ⊢
 have hpc:=Cm.tC_len ps
 by_cases hlt:i<n.toNat
 ·rw [show n.toNat - i=(n.toNat - (i+1))+1 by omega,htab] at hts
  have ct:=cT hfx G' pu u i (hAm _ _ _ _ hle h2)
  have hfm:∀ T v2,(ps++[((T,v2):List Ru.R × Value)]).flatMap Cm.tC=ps.flatMap Cm.tC++[.hs v2 T.length]:=fun T v2=>by rw [List.flatMap_append];rfl
  generalize TB i=tbi at *
  obtain ⟨T,te⟩:=tbi
  dsimp only at *
  by_cases hte:te=0
  ·subst hte
   rw [if_pos rfl] at hts
   generalize ps.flatMap Cm.tC=pc at *
   repeat' first|(intro K hK;(with_reducible refine gC ?_);(refine cN [0] ct ?_;rintro _ _ ⟨G2,v2,j1,j2,j3,rfl,rfl⟩;refine cR ?_))|(refine sxZ ?_;try clear hK K)|refine sxW ?_ ?_<;>intro _|(intro K hK _;conv=>whnf)
   all_goals try (exfalso;omega)
   all_goals
    rename_i w2
    refine aC (G2,w2,ps++[(T,v2)],i+1) ⟨hlt,hle.trans j1,fun p hp=>?_,by dsimp only;rw [List.length_append,hpl];rfl,by rw [List.map_append];exact hts⟩ (by show n.toNat - (i+1)<n.toNat - i;omega) ?_ (Qw.pre 4 ?_)
    ·rcases List.mem_append.1 hp with hp | hp
     ·exact Cm.Row.mono j1 (hall p hp)
     ·rw [List.mem_singleton.1 hp];exact j2
    ·dsimp only
     rw [List.length_append]
     exact aD
    ·dsimp only [autoM]
     rw [hfm,List.length_append]
     rfl
  ·rw [if_neg hte] at hts
   rw [hts]
   repeat' first|((try intro K hK);(with_reducible refine gC ?_);(refine cN [0] ct ?_;rintro _ _ ⟨G2,v2,j1,j2,j3,rfl,rfl⟩;refine cR ?_))|((first|intro A B hA hB|intro K hK|skip);first|((with_reducible refine NIf.yes ?s ?_);(case s=>simp [hte];done);conv=>whnf)|((with_reducible refine NIf.no ?s ?_);(case s=>simp [hte];done);conv=>whnf))|(refine sxZ ?_;(try clear hK K);try clear hA hB A B)|refine sxW ?_ ?_<;>intro _|(intro K hK _;conv=>whnf)
   all_goals first | (exfalso;omega) | exact ⟨G2,.slice none 0 0,[],(h1.trans hle).trans j1,rfl,fun p hp=>(by cases hp),rfl,(Qw.pre 1 rfl).trans (Qw.nilRow _ _ _)⟩
 ·obtain rfl:i=n.toNat:=by omega
  rw [Nat.sub_self,htab0] at hts
  rw [hts]
  repeat' first|(refine sxZ ?_;try clear hK K)|refine sxW ?_ ?_<;>intro _|(intro K hK _;conv=>whnf)
  all_goals first | (exfalso;omega) | exact ⟨G',w,ps,h1.trans hle,rfl,hall,rfl,Qw.pick [0,3] (by decide) rfl⟩
namespace Cm
open Ps
def exX:Po.T:=.mk 5 (.mk 3 1 1 []) 0 0 [.mk 2 Po.noneP 4 2 [],.mk 1 (.mk 2 0 0 []) 0 0 []]
def exT:List UInt8:=[105,102,32,100,115,116,32,61,32,49,32,116,104,101,110,32,112,111,114,116,32,58,61,32,50,32,101,108,115,101,32,100,114,111,112]
def exW:List Lx.B:=[W wIf,W [100,115,116],S wEq,Nm 1,W wThen,W [112,111,114,116],S wSet,Nm 2,W wElse,W wDrop]
theorem ex_words:bs exT=some exW:=by
 have h1:∀ y,free y→bs (49::y)=(bs y).map (Nm 1::·):=fun y hy=>by
  have:=bs_num (v:=1) (by decide) (by decide) hy
  rwa [show Lib.itoa 1=[49] by decide +kernel] at this
 have h2:∀ y,free y→bs (50::y)=(bs y).map (Nm 2::·):=fun y hy=>by
  have:=bs_num (v:=2) (by decide) (by decide) hy
  rwa [show Lib.itoa 2=[50] by decide +kernel] at this
 show bs (wIf++(32::([100,115,116]++(32::61::32::49::32::(wThen++(32::([112,111,114,116]++(32::58::61::32::50::32::(wElse++(32::(wDrop++[])))))))))))=_
 rw [bs_word (by decide) (by decide) (free_sp _),bs_sp,bs_word (by decide) (by decide) (free_sp _),bs_sp,bs_sign _ (by decide),bs_sp,h1 _ (free_sp _),bs_sp,bs_word (by decide) (by decide) (free_sp _),bs_sp,bs_word (by decide) (by decide) (free_sp _),bs_sp,bs_set,bs_sp,h2 _ (free_sp _),bs_sp,bs_word (by decide) (by decide) (free_sp _),bs_sp,bs_word (by decide) (by decide) free_nil,bs_nil]
 rfl
theorem ex_parse:whole (exW++[(⟨4,0,[]⟩:Lx.B)]) (rows (exW++[(⟨4,0,[]⟩:Lx.B)]) (Ps.step (exW++[(⟨4,0,[]⟩:Lx.B)]) (exW++[(⟨4,0,[]⟩:Lx.B)]).length) 0) = .ok exX 0:=by rfl
deriving instance DecidableEq for Ru.R
def r0:Ru.R:=⟨2,⟨-1,0,1,0,0,0,255,0,0⟩,[⟨2,0,2⟩]⟩
def r1:Ru.R:=⟨1,⟨-1,0,0,0,0,0,0,0,0⟩,[]⟩
theorem in64_of {ports:Int} {x:Ru.R} (h:Ru.ok ports x) (hp:ports≤100000):x.in64:=by
 obtain ⟨h1,h2,h3,h4,h5⟩:=h
 have h256:∀ f:Int,Mt.top f≤255:=fun f=>(Mt.top_lt f).2
 refine ⟨⟨by omega,by omega⟩,⟨⟨by have:=h3.1;omega,by have:=h3.1;omega⟩,fun f hf=>?_⟩,fun y hy=>?_,by omega⟩
 ·have:=h3.2 f hf
  have h9:=h256 f
  exact ⟨⟨by have:=this.2.2.1;omega,by have:=this.2.2.2.1;omega⟩,by have:=this.1;omega,by have:=this.2.1;omega⟩
 ·have h9:=h256 y.f
  rcases h5 y hy with h | h | h
  iterate 3
   ·exact ⟨⟨by omega,by omega⟩,⟨by omega,by omega⟩,by omega,by omega⟩
end Cm
set_option maxHeartbeats 8000000
theorem Tr.ans_facts (sw:Int) (x:Po.T) (hf:Tr.few x=true):(Tr.ans sw x).1.length≤1000∧(∀ c∈(Tr.ans sw x).1,c.out.length≤1000)∧(Po.right x=true→Po.cells (Po.spec sw x)≤4096)∧(Po.right x=true→Tr.cnt (Po.spec sw x) Tr.order≤1000000):=by
 have h3:=(Tr.few_iff hf).1
 by_cases hr:Po.right x=true
 ·have hxf:=Po.right_fits' hr
  have h1:=Nat.le_trans (Tr.few_cells sw x hxf 5) h3
  have h2:=Nat.le_trans (Tr.few_cnt sw x hxf) h3
  have hl:=Tr.cases_len sw (Po.spec sw x) Tr.order Tr.start
  unfold Tr.ans
  rw [if_pos hr]
  refine ⟨by show (Tr.all sw x).length≤1000;unfold Tr.all;omega,fun c hc=>Nat.le_trans (Tr.cases_out_len sw _ 64 (fun s=>Po.runs_64 sw _ (Po.spec_right sw x hr) s) Tr.order Tr.start c hc) (by decide),fun _=>Nat.le_trans h1 (by decide),fun _=>Nat.le_trans h2 (by decide)⟩
 ·unfold Tr.ans
  rw [if_neg hr]
  exact ⟨Nat.zero_le _,fun c hc=>(by cases hc),fun h=>absurd h hr,fun h=>absurd h hr⟩
set_option maxHeartbeats 4000000
namespace Cm
theorem out_ok {tx:List UInt8} {ls:List Lx.B} (hw:Ps.bs tx=some ls) (hl:ls.length≤500) {x:Po.T} (hp:Ps.whole (ls++[(⟨4,0,[]⟩:Lx.B)]) (Ps.rows (ls++[(⟨4,0,[]⟩:Lx.B)]) (Ps.step (ls++[(⟨4,0,[]⟩:Lx.B)]) (ls++[(⟨4,0,[]⟩:Lx.B)]).length) 0) = .ok x 0):Ps.out27 tx=(x,0,0):=by
 obtain ⟨L,hL,hm⟩:=Ps.toks_of hw
 have hlen:L.length≤500:=by rw [← List.length_map (f:=(·.1)),hm];exact hl
 have hb:=Lx.res_b tx L
 rw [hm] at hb
 rcases Lx.all_cases tx with ⟨L',h1,_,ha⟩ | ⟨h1,_⟩ | ⟨h1,_⟩
 ·rw [hL] at h1
  injection h1 with h1
  subst h1
  unfold Ps.out27 Ps.q27
  rw [ha]
  unfold Ps.out
  dsimp only
  rw [hb,hp]
 ·rw [hL] at h1;cases h1
 ·exact absurd ⟨L,hL,hlen⟩ h1
theorem ex_out:Ps.out27 exT=(exX,0,0):=out_ok ex_words (by decide) ex_parse
def exTop:Tp.T:=⟨1,[],[⟨0,2⟩]⟩
theorem ex_right:Tp.right exTop=true:=by decide +kernel
theorem ex_few:Tr.few exX=true:=by decide +kernel
theorem fit_of {x:Po.T} (hs:Po.tot x≤1000000000) (h:Tr.few x=true):Fit x :=
 ⟨hs,fun sw=>(Tr.ans_facts sw x h).2.2.1,fun sw=>(Tr.ans_facts sw x h).2.2.2,fun sw=>(Tr.ans_facts sw x h).1,fun sw=>(Tr.ans_facts sw x h).2.1⟩
theorem ex_comp:comp true exTop (exX,0,0) 9=([[r0,r1]],0,0):=by decide +kernel
theorem ex_t0:Ru.text r0 ⟨-1,0,1,0,0,0,255,0,0⟩=[50,32,100,115,116,32,49,58,32,111,117,116,32,50]:=by decide +kernel
theorem ex_t1:Ru.text r1 ⟨-1,0,0,0,0,0,0,0,0⟩=[49,32,97,110,121,58,32,100,114,111,112]:=by decide +kernel
theorem r0_ok:Ru.ok 8 r0:=by decide +kernel
theorem r1_ok:Ru.ok 8 r1:=by decide +kernel
end Cm
theorem jH (F:Heap) (b:Nat) :
  Qz Tryz.prog 24 [.str Cm.exT,.agg [.int .i64 1,.raw (.slice none 0 0),.sl 1 (.slice (some ⟨b,0,none⟩) 1 1) 1],.int .i64 9] [hpB F,⟨⟨b,0,none⟩,[.int .i64 0,.int .i64 2],.row (.slice (some ⟨b,0,none⟩) 1 1) 62 2 1⟩]
   fun r m=>∃ G v A cap A0 k0 A1 k1,F.le G∧(SlOk v 1∧SlOk (.slice A 2 cap) 2∧SlOk (.slice A0 1 k0) 1∧SlOk (.slice A1 0 k1) 0)∧G.c ((addrOf v).add 0) (.slice A 2 cap)∧(Cm.ARow G (.slice A0 1 k0) Cm.r0.acts∧Cm.Cell G (.slice A 2 cap) 0 Cm.r0 A0 k0)∧(Cm.ARow G (.slice A1 0 k1) Cm.r1.acts∧Cm.Cell G (.slice A 2 cap) 1 Cm.r1 A1 k1)∧r = .tup [.hs v 1,.int .i64 0,.int .i64 0]∧m=[hpB G,hpB noHeap]:=by
 have hok:SlOk (.slice (some ⟨b,0,none⟩) 1 1) 1:=⟨_,_,rfl,Nat.le_refl _,fun h=>by cases h⟩
 generalize hw:Value.slice (some ⟨b,0,none⟩) 1 1=w at *
 have a3:(⟨b,0,none⟩:Addr)=addrOf w:=by rw [← hw];rfl
 rw [a3]
 have e8:denL ([.int .i64 0,.int .i64 2]:List AV)=[(⟨0,2⟩:Tp.Hs)].flatMap Tp.hsV:=rfl
 have r8:=aM (F:=F) (sz:=2) (enc:=Tp.hsV) hok e8 (fun x _=>rfl)
 have hat:Tp.At (addF F (addrOf w) (denL ([.int .i64 0,.int .i64 2]:List AV))) Cm.exTop (.slice none 0 0) w:=⟨aI.nil,r8⟩
 have c:=kb _ Cm.exT (by decide) Cm.exTop (.slice none 0 0) w true hat (by decide) (by decide) (fun G hG=>by
  have h:=nz G Cm.exTop (.slice none 0 0) w (Tp.At.mono hG hat) (by decide) (by decide)
  rwa [Cm.ex_right] at h) (fun _=>by decide) 9 (fun _=>by rw [Cm.ex_out];exact Cm.fit_of (by decide +kernel) Cm.ex_few) (by rw [Cm.ex_out];decide +kernel)
 rw [Cm.ex_out,Cm.ex_comp] at c
 refine (Qz.pre (args:=[.str Cm.exT,.agg [.int .i64 1,.raw (.slice none 0 0),.sl 1 w 1],.int .i64 9]) c rfl (Qw.freeze (m:=[]))).fits fun r m' hr=>?_
 obtain ⟨G,v,h1,h2,rfl,rfl⟩:=hr
 obtain ⟨A,cap,h3,h4⟩:=h2.get (i:=0) (T:=[Cm.r0,Cm.r1]) rfl
 obtain ⟨A0,k0,h5,h6⟩:=h3.get (i:=0) (x:=Cm.r0) rfl
 obtain ⟨A1,k1,h7,h8⟩:=h3.get (i:=1) (x:=Cm.r1) rfl
 exact ⟨_,_,rfl,(Qw.noHeap _).trans (Qw.pick [1,0] (by decide) rfl),G,v,A,cap,A0,k0,A1,k1,addF.old.trans h1,⟨h2.ok,h3.ok,h5.ok,h7.ok⟩,h4,⟨h5,h6⟩,⟨h7,h8⟩,rfl,rfl⟩
theorem nj (F:Heap) (hT:TabF F):Qz Tryz.prog 8 [] [hpB F] fun r m=>r = .bool true∧m=[hpB F]:=by
 refine Qz.fits (K:=fun r m=>r = .bool true∧∃ F',F.le F'∧Qw m [hpB F']) ?_ fun r m' ⟨h1,F',h2,h3⟩=>⟨r,_,rfl,h3.trans (Qw.less h2 []),h1,rfl⟩
 have cc:=fun b=>jH F b
 have ct0:=fun G (hG:F.le G) A k (hA:Cm.ARow G (.slice A 1 k) Cm.r0.acts)=>jT G (hT.mono hG) (.slice A 1 k) Cm.r0 hA (Cm.in64_of Cm.r0_ok (by decide)) (by decide) (by decide) ⟨-1,0,1,0,0,0,255,0,0⟩ rfl ((Mt.N.ok_iff _).1 Cm.r0_ok.2.2.1)
 have ct1:=fun G (hG:F.le G) A k (hA:Cm.ARow G (.slice A 0 k) Cm.r1.acts)=>jT G (hT.mono hG) (.slice A 0 k) Cm.r1 hA (Cm.in64_of Cm.r1_ok (by decide)) (by decide) (by decide) ⟨-1,0,0,0,0,0,0,0,0⟩ rfl ((Mt.N.ok_iff _).1 Cm.r1_ok.2.2.1)
 rw [Cm.ex_t0] at ct0
 rw [Cm.ex_t1] at ct1
 have ct0:∀ G (hG:F.le G) A k (hA:Cm.ARow G (.slice A 1 k) Cm.r0.acts),Qz Tryz.prog 25 [.agg [.int .i64 2,.int .i64 (-1),.int .i64 0,.int .i64 1,.int .i64 0,.int .i64 0,.int .i64 0,.int .i64 255,.int .i64 0,.int .i64 0,.hs (.slice A 1 k) 1]] [hpB G] fun r m=>r = .str [50,32,100,115,116,32,49,58,32,111,117,116,32,50]∧m=[hpB G]:=ct0
 have ct1:∀ G (hG:F.le G) A k (hA:Cm.ARow G (.slice A 0 k) Cm.r1.acts),Qz Tryz.prog 25 [.agg [.int .i64 1,.int .i64 (-1),.int .i64 0,.int .i64 0,.int .i64 0,.int .i64 0,.int .i64 0,.int .i64 0,.int .i64 0,.int .i64 0,.hs (.slice A 0 k) 0]] [hpB G] fun r m=>r = .str [49,32,97,110,121,58,32,100,114,111,112]∧m=[hpB G]:=ct1
 have cc:=fun b=>(cc b).mono (K':=fun r m=>∃ G v A cap A0 k0 A1 k1,F.le G∧(SlOk v 1∧SlOk (.slice A 2 cap) 2∧SlOk (.slice A0 1 k0) 1∧SlOk (.slice A1 0 k1) 0)∧(G.c ((addrOf v).add 0) (.slice A 2 cap)∧Cm.ARow G (.slice A0 1 k0) Cm.r0.acts∧Cm.ARow G (.slice A1 0 k1) Cm.r1.acts)∧(G.c ((addrOf (.slice A 2 cap)).add 0) (.int .i64 2)∧G.c ((addrOf (.slice A 2 cap)).add 1) (.int .i64 (-1))∧G.c ((addrOf (.slice A 2 cap)).add 2) (.int .i64 0)∧G.c ((addrOf (.slice A 2 cap)).add 3) (.int .i64 1)∧G.c ((addrOf (.slice A 2 cap)).add 4) (.int .i64 0)∧G.c ((addrOf (.slice A 2 cap)).add 5) (.int .i64 0)∧G.c ((addrOf (.slice A 2 cap)).add 6) (.int .i64 0)∧G.c ((addrOf (.slice A 2 cap)).add 7) (.int .i64 255)∧G.c ((addrOf (.slice A 2 cap)).add 8) (.int .i64 0)∧G.c ((addrOf (.slice A 2 cap)).add 9) (.int .i64 0)∧G.c ((addrOf (.slice A 2 cap)).add 10) (.slice A0 1 k0))∧(G.c ((addrOf (.slice A 2 cap)).add 11) (.int .i64 1)∧G.c ((addrOf (.slice A 2 cap)).add 12) (.int .i64 (-1))∧G.c ((addrOf (.slice A 2 cap)).add 13) (.int .i64 0)∧G.c ((addrOf (.slice A 2 cap)).add 14) (.int .i64 0)∧G.c ((addrOf (.slice A 2 cap)).add 15) (.int .i64 0)∧G.c ((addrOf (.slice A 2 cap)).add 16) (.int .i64 0)∧G.c ((addrOf (.slice A 2 cap)).add 17) (.int .i64 0)∧G.c ((addrOf (.slice A 2 cap)).add 18) (.int .i64 0)∧G.c ((addrOf (.slice A 2 cap)).add 19) (.int .i64 0)∧G.c ((addrOf (.slice A 2 cap)).add 20) (.int .i64 0)∧G.c ((addrOf (.slice A 2 cap)).add 21) (.slice A1 0 k1))∧r = .tup [.hs v 1,.int .i64 0,.int .i64 0]∧m=[hpB G,hpB noHeap]) fun r m ⟨G,v,A,cap,A0,k0,A1,k1,h1,h2,h3,⟨h4,d0,d1,d2,d3,d4,d5,d6,d7,d8,d9,d10⟩,⟨h5,e0,e1,e2,e3,e4,e5,e6,e7,e8,e9,e10⟩,h6,h7⟩ =>
  ⟨G,v,A,cap,A0,k0,A1,k1,h1,h2,⟨h3,h4,h5⟩,⟨d0,d1,d2,d3,d4,d5,d6,d7,d8,d9,d10⟩,⟨e0,e1,e2,e3,e4,e5,e6,e7,e8,e9,e10⟩,h6,h7⟩
 unfold Cm.exT at cc
 refine aB Tryz.func8 rfl (by decide) ?_
 repeat' first|((try intro K hK);(with_reducible refine gC ?_);first|(refine cN [0,1] (cc _) ?_;rintro _ _ ⟨G,v,A,cap,A0,k0,A1,k1,h1,⟨o1,o2,o3,o4⟩,⟨l1,a0,a1⟩,⟨d0,d1,d2,d3,d4,d5,d6,d7,d8,d9,d10⟩,⟨e0,e1,e2,e3,e4,e5,e6,e7,e8,e9,e10⟩,rfl,rfl⟩;refine cR ?_)|refine cS [0] (ct0 G h1 A0 k0 a0) ?_|refine cS [0] (ct1 G h1 A1 k1 a1) ?_)|((first|intro A B hA hB|intro K hK|skip);first|((with_reducible refine NIf.yes ?s ?_);(case s=>simp ;done);conv=>whnf)|((with_reducible refine NIf.no ?s ?_);(case s=>simp ;done);conv=>whnf))|(refine sxZ ?_;(try clear hK K);try clear hA hB A B)|refine sxW ?_ ?_<;>intro _|(intro K hK _;conv=>whnf)
 all_goals exact ⟨congrArg AV.bool (decide_eq_true rfl),G,h1,Qw.pre 1 rfl⟩
end Go.Proofs.YtmehinfgdcmmjaaGreatDoor
