import Derived.Test.YtmehinfgdcmmjaaGreatDoorJ21
import Derived.Test.YtmehinfgdcmmjaaGreatDoorJ37
import Derived.Test.YtmehinfgdcmmjaaGreatDoorJ36
import Derived.Test.YtmehinfgdcmmjaaGreatDoorJ24
import Derived.Test.YtmehinfgdcmmjaaGreatDoorJ25
import Derived.Test.YtmehinfgdcmmjaaGreatDoorJ19
namespace Go.Proofs.YtmehinfgdcmmjaaGreatDoor
open Go.Sx
set_option maxRecDepth 20000
set_option linter.unusedSimpArgs false
set_option linter.unusedVariables false
set_option maxHeartbeats 4000000
set_option linter.unusedVariables false
namespace Cm
def TR (F:Heap) (T:List Ru.R) (us:List Value):Prop:=∃ A cap,Row F (.slice A T.length cap) T∧us=[.slice A T.length cap]
abbrev TRow (F:Heap) (v:Value) (l:List (List Ru.R)):Prop:=RowF F 1 (TR F) v l
theorem TRow.get {F:Heap} {v:Value} {l:List (List Ru.R)} (h:TRow F v l) {i:Nat} {T:List Ru.R} (hx:l[i]?=some T):∃ A cap,Row F (.slice A T.length cap) T∧F.c ((addrOf v).add i) (.slice A T.length cap):=by
 obtain ⟨us,h1,_,h2⟩:=h.at_ i T hx
 obtain ⟨A,cap,h3,rfl⟩:=h1
 rw [Nat.mul_one] at h2
 exact ⟨A,cap,h3,h2.1⟩
def tC (p:List Ru.R × Value):List AV:=[.hs p.2 p.1.length]
def tV (p:List Ru.R × Value):List Value:=denL (tC p)
theorem tC_den (ps:List (List Ru.R × Value)):denL (ps.flatMap tC)=ps.flatMap tV:=by
 induction ps with
 | nil=>rfl
 | cons x l ih=>rw [List.flatMap_cons,List.flatMap_cons,denL_append,ih];rfl
theorem tC_len (ps:List (List Ru.R × Value)):(ps.flatMap tC).length=ps.length*1:=by
 induction ps with
 | nil=>rfl
 | cons x l ih=>rw [List.flatMap_cons,List.length_append,ih,List.length_cons];simp only [tC,List.length_cons,List.length_nil];omega
theorem trow_of {G:Heap} {u:Value} {ps:List (List Ru.R × Value)} (h:RowF G 1 (fun p vs=>vs=tV p) u ps) (hall:∀ p∈ps,Row G p.2 p.1):TRow G u (ps.map (·.1)):=by
 refine ⟨by rw [List.length_map];exact h.ok,fun k x hx=>?_⟩
 rw [List.getElem?_map] at hx
 cases hp:ps[k]? with
 | none=>rw [hp] at hx;cases hx
 | some p =>
  rw [hp] at hx
  simp only [Option.map_some,Option.some.injEq] at hx
  subst hx
  obtain ⟨vs,h1,h2,h3⟩:=h.at_ k p hp
  have hr:=hall p (List.mem_of_getElem? hp)
  refine ⟨vs,?_,h2,h3⟩
  obtain ⟨A,cap,hv,hle,hz⟩:=hr.ok
  rw [h1]
  obtain ⟨x,w⟩:=p
  dsimp only at hv hr ⊢
  subst hv
  exact ⟨A,cap,hr,rfl⟩
def tb (x:Po.T) (room:Int) (i:Nat):List Ru.R × Int:=tbl (Tr.ans i x).1 (Tr.ans i x).2 room
def tabs (x:Po.T) (room:Int):Nat→Nat→List (List Ru.R)→List (List Ru.R) × Int × Int
 | 0,_,acc=>(acc,0,0)
 | k+1,i,acc=>if (tb x room i).2=0 then tabs x room k (i+1) (acc++[(tb x room i).1]) else ([],i,(tb x room i).2)
def comp (bt:Bool) (t:Tp.T) (o:Po.T × Int × Int) (room:Int):List (List Ru.R) × Int × Int :=
 if o.2.2≠0 then ([],o.2.1,o.2.2) else if Po.check bt t o.1≠0 then ([],0,Po.check bt t o.1) else tabs o.1 room t.n.toNat 0 []
structure Fit (x:Po.T):Prop where
 tot:Po.tot x≤1000000000
 ce:∀ sw,Po.right x=true→Po.cells (Po.spec sw x)≤4096
 cn:∀ sw,Po.right x=true→Tr.cnt (Po.spec sw x) Tr.order≤1000000
 len:∀ sw,(Tr.ans sw x).1.length≤1000
 out:∀ sw,∀ c∈(Tr.ans sw x).1,c.out.length≤1000
end Cm
theorem compile32_c (F:Heap) (tx:List UInt8) (htx:tx.length≤4000) (t:Tp.T) (lv hv:Value) (bt:Bool) (ht:Tp.At F t lv hv) (hl:t.ls.length≤1000) (hh:t.hs.length≤1000)
  (cr:∀ G,F.le G→NCall Tryz.prog 90 [.agg (Tp.cs t lv hv)] [hpB G] fun r m=>r = .bool bt∧m=[hpB G]) (hbt:bt=true→t.n≤8) (room:Int) (hf:(Ps.out27 tx).2.2=0→Cm.Fit (Ps.out27 tx).1) (htot:Po.tot (Ps.out27 tx).1≤2932031007402) :
  NCall Tryz.prog 24 [.str tx,.agg (Tp.cs t lv hv),.int .i64 room] [hpB F] fun r m=>∃ G v,F.le G∧Cm.TRow G v (Cm.comp bt t (Ps.out27 tx) room).1∧r = .tup [.hs v (Cm.comp bt t (Ps.out27 tx) room).1.length,.int .i64 (Cm.comp bt t (Ps.out27 tx) room).2.1,.int .i64 (Cm.comp bt t (Ps.out27 tx) room).2.2]∧m=[hpB G]:=by
 refine Go.Sx.NCall.know (K:=fun r m'=>∃ G v,∃ ps:List (List Ru.R × Value),F.le G∧ps.map (·.1)=(Cm.comp bt t (Ps.out27 tx) room).1∧(∀ p∈ps,Cm.Row G p.2 p.1)∧r.den=(AV.tup [.raw (slOf v),.int .i64 (Cm.comp bt t (Ps.out27 tx) room).2.1,.int .i64 (Cm.comp bt t (Ps.out27 tx) room).2.2]).den∧MemFits m' [hpB G,⟨addrOf v,ps.flatMap Cm.tC,.row v 33 1 ps.length⟩]) ?_ fun r m' ⟨G,u,ps,hle,hmap,hall,hr,hm⟩ ⟨w,hw⟩=>?_
 rotate_left
 ·have hok:=((hm w hw).1.row (List.mem_cons_of_mem _ (List.mem_cons_self ..))).1
  have hrow:=rowF_new (F:=G) (sz:=1) (enc:=Cm.tV) hok (Cm.tC_den ps) (fun x _=>rfl)
  have hR:=Cm.trow_of hrow fun p hp=>Cm.Row.mono addF.old (hall p hp)
  rw [hmap] at hR
  refine ⟨.tup [.hs u (Cm.comp bt t (Ps.out27 tx) room).1.length,.int .i64 (Cm.comp bt t (Ps.out27 tx) room).2.1,.int .i64 (Cm.comp bt t (Ps.out27 tx) room).2.2],_,by rw [hr];rfl,hm.trans (MemFits.freeze (m:=[])),_,u,hle.trans addF.old,hR,rfl,rfl⟩
 have cp:=parse27_all tx htx F
 generalize Ps.out27 tx=o at *
 obtain ⟨x,at_,e⟩:=o
 dsimp only at cp hf htot
 have cp:=cp.mono (K':=fun r m=>∃ G pu u,F.le G∧Po.At G x pu u∧(SlOk pu x.p.l.length∧SlOk u x.l.length)∧r = .tup [.agg (Po.cs x pu u),.int .i64 at_,.int .i64 e]∧m=[hpB G]) fun r m ⟨G,pu,u,h1,h2,h3,h4⟩=>⟨G,pu,u,h1,h2,⟨h2.p.ok,h2.l.ok⟩,h3,h4⟩
 have cc:=fun G pu u (hG:F.le G) (hx:Po.At G x pu u)=>check27_c G t lv hv x pu u bt (Tp.At.mono hG ht) hl hh htot hx (cr G hG)
 have cT:=fun (hf:Cm.Fit x) G pu u (sw:Nat) (hx:Po.At G x pu u)=>table32_c G x pu u sw room hf.tot hx (hf.ce sw) (hf.cn sw) (hf.len sw) (hf.out sw)
 have hlo:=ht.l.ok
 have hho:=ht.h.ok
 have hcm:Cm.comp bt t (x,at_,e) room=if e≠0 then ([],at_,e) else if Po.check bt t x≠0 then ([],0,Po.check bt t x) else Cm.tabs x room t.n.toNat 0 []:=rfl
 have hn8:Po.check bt t x=0→t.n≤8:=fun h=>hbt (by
  unfold Po.check at h
  cases bt with
  | true=>rfl
  | false=>rw [if_pos rfl] at h;exact absurd h (by decide))
 have htab:∀ k i acc,Cm.tabs x room (k+1) i acc=if (Cm.tb x room i).2=0 then Cm.tabs x room k (i+1) (acc++[(Cm.tb x room i).1]) else ([],i,(Cm.tb x room i).2):=fun _ _ _=>rfl
 have htab0:∀ i acc,Cm.tabs x room 0 i acc=(acc,0,0):=fun _ _=>rfl
 have cT:∀ (hf:Cm.Fit x) G pu u (sw:Nat) (hx:Po.At G x pu u),NCall Tryz.prog 9 [.agg (Po.cs x pu u),.int .i64 sw,.int .i64 room] [hpB G] fun r m=>Cm.GivesT G (Cm.tb x room sw) r m:=cT
 rw [hcm]
 generalize Po.check bt t x=ck at *
 generalize Cm.tb x room=TB at *
 generalize Cm.tabs x room=TS at *
 clear hcm cr ht
 have hAm:=fun (G G':Heap) (a b:Value) (h:G.le G') (h2:Po.At G x a b)=>Po.At.mono h h2
 obtain ⟨k,⟨pk,pf,pv,pl⟩,a,v,l⟩:=x
 obtain ⟨n,ls,hs⟩:=t
 simp only [po_cs,Tp.cs,Po.T.l,Po.T.p,Pd.T.k,Pd.T.f,Pd.T.v,Pd.T.l,Cm.GivesT] at *
 refine ncall_of Tryz.func24 rfl (by decide) ?_
 by_cases he:e=0
 rotate_left
 ·rw [if_pos he]
  repeat' first|((try intro K hK);(with_reducible refine gC ?_);(refine cN [0] cp ?_;rintro _ _ ⟨G,pu,u,h1,h2,⟨h3,h4⟩,rfl,rfl⟩;refine cR ?_))|((first|intro A B hA hB|intro K hK|skip);first|((with_reducible refine NIf.yes ?s ?_);(case s=>simp [he];done);(conv=>whnf))|((with_reducible refine NIf.no ?s ?_);(case s=>simp [he];done);(conv=>whnf)))|(refine sxZ ?_;(try clear hK K);try clear hA hB A B)|refine sxW ?_ ?_<;>intro _|(intro K hK _;(conv=>whnf))
  all_goals first | (exfalso;omega) | exact ⟨G,.slice none 0 0,[],h1,rfl,fun p hp=>(by cases hp),rfl,(MemFits.pre 1 rfl).trans (MemFits.nilRow _ _ _)⟩
 subst he
 rw [if_neg (by simp)]
 by_cases hck:ck=0
 rotate_left
 ·rw [if_pos hck]
  repeat' first|((try intro K hK);(with_reducible refine gC ?_);first|(refine cN [0] cp ?_;rintro _ _ ⟨G,pu,u,h1,h2,⟨h3,h4⟩,rfl,rfl⟩;refine cR ?_)|refine cS [0] (cc G pu u h1 h2) ?_)|((first|intro A B hA hB|intro K hK|skip);first|((with_reducible refine NIf.yes ?s ?_);(case s=>simp [hck];done);(conv=>whnf))|((with_reducible refine NIf.no ?s ?_);(case s=>simp [hck];done);(conv=>whnf)))|(refine sxZ ?_;(try clear hK K);try clear hA hB A B)|refine sxW ?_ ?_<;>intro _|(intro K hK _;(conv=>whnf))
  all_goals first | (exfalso;omega) | exact ⟨G,.slice none 0 0,[],h1,rfl,fun p hp=>(by cases hp),rfl,(MemFits.pre 1 rfl).trans (MemFits.nilRow _ _ _)⟩
 subst hck
 rw [if_neg (by simp)]
 have hfx:=hf rfl
 have hn8:=hn8 rfl
 repeat' first|((try intro K hK);(with_reducible refine gC ?_);first|(refine cN [0] cp ?_;rintro _ _ ⟨G,pu,u,h1,h2,⟨h3,h4⟩,rfl,rfl⟩;refine cR ?_)|refine cS [0] (cc G pu u h1 h2) ?_)|((first|intro A B hA hB|intro K hK|skip);first|((with_reducible refine NIf.yes ?s ?_);(case s=>simp ;done);(conv=>whnf))|((with_reducible refine NIf.no ?s ?_);(case s=>simp ;done);(conv=>whnf)))|(refine sxZ ?_;(try clear hK K);try clear hA hB A B)|refine sxW ?_ ?_<;>intro _|(intro K hK _;(conv=>whnf))
 all_goals try (exfalso;omega)
 refine st_auto (α:=Heap × Value × List (List Ru.R × Value) × Nat) (fun (G',w,ps,i)=>i≤n.toNat∧G.le G'∧(∀ p∈ps,Cm.Row G' p.2 p.1)∧ps.length=i∧TS n.toNat 0 []=TS (n.toNat - i) i (ps.map (·.1))) (fun (G',w,ps,i)=>[.keep,.keep,.keep,.keep,.keep,.keep,.drop,.drop,.drop,.keep,.keep,.keep,.keep,.set (.sl 3 w ps.length),.drop,.drop,.drop,.keep,.keep,.keep,.keep,.keep,.keep,.keep,.keep,.keep,.keep,.keep,.keep,.keep,.keep,.keep,.keep,.keep,.keep,.set (.int .i64 i),.drop,.drop,.drop,.drop,.drop,.drop,.drop,.drop,.drop,.drop,.drop,.drop,.drop,.drop,.drop,.drop,.drop,.drop,.keep])
  (fun (G',w,ps,i)=>[.set (hpB G'),.keep,.keep,.set ⟨addrOf w,ps.flatMap Cm.tC,.row w 33 1 ps.length⟩]) (fun (G',w,ps,i)=>n.toNat - i) (G,.slice none 0 0,[],0) ⟨Nat.zero_le _,G.le_refl,fun p hp=>(by cases hp),rfl,rfl⟩ ?_ ?_ ?_
 ·exact fitsGo
 ·exact (MemFits.nilRow _ 33 1).trans (MemFits.congr rfl)
 (intro ⟨G',w,ps,i⟩ ⟨hi,hle,hall,hpl,hts⟩;intro K hK;(conv=>whnf);refine hK _ _ ?_;clear hK K)
 dsimp only at hi hle hall hpl hts ⊢
 have hpc:=Cm.tC_len ps
 by_cases hlt:i<n.toNat
 ·rw [show n.toNat - i=(n.toNat - (i+1))+1 by omega,htab] at hts
  have ct:=cT hfx G' pu u i (hAm _ _ _ _ hle h2)
  have hfm:∀ T v2,(ps++[((T,v2):List Ru.R × Value)]).flatMap Cm.tC=ps.flatMap Cm.tC++[.hs v2 T.length]:=fun T v2=>by rw [List.flatMap_append];rfl
  generalize TB i=tbi at *
  obtain ⟨T,te⟩:=tbi
  dsimp only at *
  by_cases hte:te=0
  ·subst hte
   rw [if_pos rfl] at hts
   generalize ps.flatMap Cm.tC=pc at *
   repeat' first|(intro K hK;(with_reducible refine gC ?_);(refine cN [0] ct ?_;rintro _ _ ⟨G2,v2,j1,j2,j3,rfl,rfl⟩;refine cR ?_))|(refine sxZ ?_;try clear hK K)|refine sxW ?_ ?_<;>intro _|(intro K hK _;(conv=>whnf))
   all_goals try (exfalso;omega)
   all_goals
    rename_i w2
    refine st_round (G2,w2,ps++[(T,v2)],i+1) ⟨hlt,hle.trans j1,fun p hp=>?_,by dsimp only;rw [List.length_append,hpl];rfl,by rw [List.map_append];exact hts⟩ (by show n.toNat - (i+1)<n.toNat - i;omega) ?_ (MemFits.pre 4 ?_)
    ·rcases List.mem_append.1 hp with hp | hp
     ·exact Cm.Row.mono j1 (hall p hp)
     ·rw [List.mem_singleton.1 hp];exact j2
    ·dsimp only
     rw [List.length_append]
     exact fitsGo
    ·dsimp only [autoM]
     rw [hfm,List.length_append]
     rfl
  ·rw [if_neg hte] at hts
   rw [hts]
   repeat' first|((try intro K hK);(with_reducible refine gC ?_);(refine cN [0] ct ?_;rintro _ _ ⟨G2,v2,j1,j2,j3,rfl,rfl⟩;refine cR ?_))|((first|intro A B hA hB|intro K hK|skip);first|((with_reducible refine NIf.yes ?s ?_);(case s=>simp [hte];done);(conv=>whnf))|((with_reducible refine NIf.no ?s ?_);(case s=>simp [hte];done);(conv=>whnf)))|(refine sxZ ?_;(try clear hK K);try clear hA hB A B)|refine sxW ?_ ?_<;>intro _|(intro K hK _;(conv=>whnf))
   all_goals first | (exfalso;omega) | exact ⟨G2,.slice none 0 0,[],(h1.trans hle).trans j1,rfl,fun p hp=>(by cases hp),rfl,(MemFits.pre 1 rfl).trans (MemFits.nilRow _ _ _)⟩
 ·obtain rfl:i=n.toNat:=by omega
  rw [Nat.sub_self,htab0] at hts
  rw [hts]
  repeat' first|(refine sxZ ?_;try clear hK K)|refine sxW ?_ ?_<;>intro _|(intro K hK _;(conv=>whnf))
  all_goals first | (exfalso;omega) | exact ⟨G',w,ps,h1.trans hle,rfl,hall,rfl,MemFits.pick [0,3] (by decide) rfl⟩
end Go.Proofs.YtmehinfgdcmmjaaGreatDoor
namespace Go.Proofs.YtmehinfgdcmmjaaGreatDoor
open Go.Sx
set_option maxRecDepth 20000
set_option maxHeartbeats 4000000
set_option linter.unusedVariables false
namespace Cm
open Ps
def exX:Po.T:=.mk 5 (.mk 3 1 1 []) 0 0 [.mk 2 Po.noneP 4 2 [],.mk 1 (.mk 2 0 0 []) 0 0 []]
def exT:List UInt8:=[105,102,32,100,115,116,32,61,32,49,32,116,104,101,110,32,112,111,114,116,32,58,61,32,50,32,101,108,115,101,32,100,114,111,112]
def exW:List Lx.B:=[W wIf,W [100,115,116],S wEq,Nm 1,W wThen,W [112,111,114,116],S wSet,Nm 2,W wElse,W wDrop]
theorem ex_words:bs exT=some exW:=by
 have h1:∀ y,free y→bs (49::y)=(bs y).map (Nm 1::·):=fun y hy=>by
  have:=bs_num (v:=1) (by decide) (by decide) hy
  rwa [show Lib.itoa 1=[49] by decide +kernel] at this
 have h2:∀ y,free y→bs (50::y)=(bs y).map (Nm 2::·):=fun y hy=>by
  have:=bs_num (v:=2) (by decide) (by decide) hy
  rwa [show Lib.itoa 2=[50] by decide +kernel] at this
 show bs (wIf++(32::([100,115,116]++(32::61::32::49::32::(wThen++(32::([112,111,114,116]++(32::58::61::32::50::32::(wElse++(32::(wDrop++[])))))))))))=_
 rw [bs_word (by decide) (by decide) (free_sp _),bs_sp,bs_word (by decide) (by decide) (free_sp _),bs_sp,bs_sign _ (by decide),bs_sp,h1 _ (free_sp _),bs_sp,bs_word (by decide) (by decide) (free_sp _),bs_sp,bs_word (by decide) (by decide) (free_sp _),bs_sp,bs_set,bs_sp,h2 _ (free_sp _),bs_sp,bs_word (by decide) (by decide) (free_sp _),bs_sp,bs_word (by decide) (by decide) free_nil,bs_nil]
 rfl
theorem ex_parse:whole (exW++[(⟨4,0,[]⟩:Lx.B)]) (rows (exW++[(⟨4,0,[]⟩:Lx.B)]) (Ps.step (exW++[(⟨4,0,[]⟩:Lx.B)]) (exW++[(⟨4,0,[]⟩:Lx.B)]).length) 0) = .ok exX 0:=by rfl
deriving instance DecidableEq for Ru.R
def r0:Ru.R:=⟨2,⟨-1,0,1,0,0,0,255,0,0⟩,[⟨2,0,2⟩]⟩
def r1:Ru.R:=⟨1,⟨-1,0,0,0,0,0,0,0,0⟩,[]⟩
theorem in64_of {ports:Int} {x:Ru.R} (h:Ru.ok ports x) (hp:ports≤100000):x.in64:=by
 obtain ⟨h1,h2,h3,h4,h5⟩:=h
 have h256:∀ f:Int,Mt.top f≤255:=fun f=>(Mt.top_lt f).2
 refine ⟨⟨by omega,by omega⟩,⟨⟨by have:=h3.1;omega,by have:=h3.1;omega⟩,fun f hf=>?_⟩,fun y hy=>?_,by omega⟩
 ·have:=h3.2 f hf
  have h9:=h256 f
  exact ⟨⟨by have:=this.2.2.1;omega,by have:=this.2.2.2.1;omega⟩,by have:=this.1;omega,by have:=this.2.1;omega⟩
 ·have h9:=h256 y.f
  rcases h5 y hy with h | h | h
  iterate 3
   ·exact ⟨⟨by omega,by omega⟩,⟨by omega,by omega⟩,by omega,by omega⟩
end Cm
end Go.Proofs.YtmehinfgdcmmjaaGreatDoor
namespace Go.Proofs.YtmehinfgdcmmjaaGreatDoor
open Go.Sx
set_option maxRecDepth 20000
set_option linter.unusedSimpArgs false
set_option linter.unusedVariables false
set_option maxHeartbeats 4000000
set_option linter.unusedVariables false
namespace Tr
def fewN (x:Po.T):Nat→Nat
 | 0=>1
 | i+1=>fewN x i*((Po.asked i x ((Pd.top i).toNat+1)).length+1)
def few (x:Po.T):Bool:=decide (fewN x 5≤300)&&decide (Po.size x≤150)
theorem fewN_next (x:Po.T) (i:Nat):fewN x (i+1)=fewN x i*((Po.asked i x ((Pd.top i).toNat+1)).length+1):=by rw [fewN]
theorem fewN_mono (x:Po.T) (i:Nat):fewN x i≤fewN x (i+1):=by
 rw [fewN_next]
 exact Nat.le_mul_of_pos_right _ (Nat.succ_pos _)
theorem fewN_le (x:Po.T):∀ (i j:Nat),i≤j→fewN x i≤fewN x j
 | i, 0, h => by obtain rfl : i = 0 := by omega
                 exact Nat.le_refl _
 | i,j+1,h=>by
  by_cases e:i=j+1
  ·subst e;exact Nat.le_refl _
  ·exact Nat.le_trans (fewN_le x i j (by omega)) (fewN_mono x j)
theorem vl (sw:Int) (x:Po.T) (hf:Po.fits x=true) (i:Nat):(Po.values i (Po.spec sw x)).length+1≤(Po.asked i x ((Pd.top i).toNat+1)).length+1:=by
 have h:=Po.spec_vlen sw i x hf
 rw [Po.asked_values _ x hf]
 omega
theorem few_cells (sw:Int) (x:Po.T) (hf:Po.fits x=true):∀ i,Po.cellsN (Po.spec sw x) i≤fewN x i
 | 0=>Nat.le_refl _
 | i+1=>by
  have h1:=Nat.mul_le_mul (few_cells sw x hf i) (vl sw x hf i)
  rw [Po.cellsN,fewN_next]
  omega
theorem few_cnt (sw:Int) (x:Po.T) (hf:Po.fits x=true):cnt (Po.spec sw x) order≤fewN x 5:=by
 have h0:=vl sw x hf 0
 have h1:=vl sw x hf 1
 have h2:=vl sw x hf 2
 have h3:=vl sw x hf 3
 have h4:=vl sw x hf 4
 have e:fewN x 5=((Po.asked (4:Nat) x ((Pd.top (4:Nat)).toNat+1)).length+1)*(((Po.asked (0:Nat) x ((Pd.top (0:Nat)).toNat+1)).length+1)*(((Po.asked (1:Nat) x ((Pd.top (1:Nat)).toNat+1)).length+1)*(((Po.asked (2:Nat) x ((Pd.top (2:Nat)).toNat+1)).length+1)*(((Po.asked (3:Nat) x ((Pd.top (3:Nat)).toNat+1)).length+1)*1)))):=by
  rw [fewN_next,fewN_next,fewN_next,fewN_next,fewN_next]
  show 1*_*_*_*_*_=_
  generalize (Po.asked (0:Nat) x ((Pd.top (0:Nat)).toNat+1)).length+1=a0
  generalize (Po.asked (1:Nat) x ((Pd.top (1:Nat)).toNat+1)).length+1=a1
  generalize (Po.asked (2:Nat) x ((Pd.top (2:Nat)).toNat+1)).length+1=a2
  generalize (Po.asked (3:Nat) x ((Pd.top (3:Nat)).toNat+1)).length+1=a3
  generalize (Po.asked (4:Nat) x ((Pd.top (4:Nat)).toNat+1)).length+1=a4
  rw [Nat.one_mul,Nat.mul_one,Nat.mul_comm _ a4,Nat.mul_assoc (a0*a1),Nat.mul_assoc a0]
 rw [e]
 exact Nat.mul_le_mul h4 (Nat.mul_le_mul h0 (Nat.mul_le_mul h1 (Nat.mul_le_mul h2 (Nat.mul_le_mul h3 (Nat.le_refl _)))))
theorem few_iff {x:Po.T} (h:few x=true):fewN x 5≤300∧Po.size x≤150:=by
 unfold few at h
 simpa using h
end Tr
theorem few31_c (F:Heap) (x:Po.T) (pu u:Value) (hs:Po.tot x≤1000000000) (hx:Po.At F x pu u) :
  NCall Tryz.prog 6 [.agg (Po.cs x pu u)] [hpB F] fun r m=>r = .bool (Tr.few x)∧m=[hpB F]:=by
 refine NCall.fits (K:=fun r m=>r = .bool (Tr.few x)∧∃ F',F.le F'∧MemFits m [hpB F']) ?_ fun r m' ⟨h1,F',h2,h3⟩=>⟨r,_,rfl,h3.trans (MemFits.less h2 []),h1,rfl⟩
 have hok:=hx.l.ok
 have hpok:=hx.p.ok
 have cv:=fun (G:Heap) (hG:F.le G) (f:Nat) (hf:f≤5)=>refvalues27_c G x pu u f (by omega) (by omega) (Po.At.mono hG hx)
 have cs:=fun G (hG:F.le G)=>refsize27_c G _ x pu u (Nat.le_refl _) (by omega) (Po.At.mono hG hx)
 have hal:∀ i:Nat,i<5→(Po.asked i x ((Pd.top i).toNat+1)).length≤256:=fun i hi=>by
  have h1:=Po.asked_len (i:Int) x ((Pd.top i).toNat+1)
  have h2:Pd.top i≤255:=by unfold Pd.top;split<;>first | omega | (split<;>first | omega | (split<;>omega))
  have h3:=Pd.top_nonneg i
  omega
 have hnx:=Tr.fewN_next x
 have hmo:=fun i (h:i≤5)=>Tr.fewN_le x i 5 h
 have h0:Tr.fewN x 0=1:=rfl
 unfold Tr.few
 generalize Po.size x=sz at *
 generalize hC:Tr.fewN x=C at *
 clear hC
 have hsz:True:=trivial
 clear hx
 obtain ⟨k,⟨pk,pf,pv,pl⟩,f,v0,l⟩:=x
 simp only [Srt.Lays,Po.cs,Po.T.k,Po.T.p,Po.T.f,Po.T.v,Po.T.l,Pd.T.k,Pd.T.f,Pd.T.v,Pd.T.l] at *
 refine ncall_of Tryz.func6 rfl (by decide) ?_
 repeat' first|(refine sxZ ?_;try clear hK K)|refine sxW ?_ ?_<;>intro _|(intro K hK _;(conv=>whnf))
 refine st_auto (α:=Heap × Nat) (fun (G,i)=>F.le G∧i≤5∧C i≤300) (fun (G,i)=>[.keep,.keep,.set (.bool false),.set (.int .i64 (C i:Nat)),.set (.int .i64 i),.drop,.drop,.drop,.drop,.drop,.drop,.drop,.drop,.drop,.drop,.drop,.drop,.drop,.keep,.keep,.keep]) (fun (G,i)=>[.set (hpB G)]) (fun (G,i)=>5 - i) (F,0) ⟨F.le_refl,by decide,by rw [h0];decide⟩ ?_ (MemFits.eq rfl) ?_
 ·repeat (first | exact FitsSl.nil | refine FitsSl.any ?_ | refine FitsSl.cons (Fit1.int (by  simp [h0])) ?_ | refine FitsSl.cons (Fit1.int (by first | rfl | omega)) ?_ | refine FitsSl.cons (Fit1.bool rfl) ?_ | refine FitsSl.cons (Fit1.str rfl) ?_ | refine FitsSl.cons (Fit1.same (by intro h;cases h) (by with_reducible rfl)) ?_ | refine FitsSl.cons Fit1.nil_sl ?_ | refine FitsSl.cons (Fit1.hs rfl) ?_ | refine FitsSl.cons (Fit1.hp rfl rfl) ?_ | refine FitsSl.cons (Fit1.sl rfl) ?_ | refine FitsSl.cons (Fit1.ptr rfl rfl) ?_ | refine FitsSl.cons Fit1.raw ?_)
 (intro ⟨G,i⟩ ⟨hle,hi,hci⟩;intro K hK;(conv=>whnf);refine hK _ _ ?_;clear hK K)
 dsimp only
 by_cases hlt:i<5
 ·have c:=(cv G hle i (by omega)).mono (K':=fun r m=>∃ F' v,G.le F'∧SlOk v (Po.asked i (.mk k (.mk pk pf pv pl) f v0 l) ((Pd.top i).toNat+1)).length∧r = .hs v (Po.asked i (.mk k (.mk pk pf pv pl) f v0 l) ((Pd.top i).toNat+1)).length∧m=[hpB F']) fun r m ⟨F',v,h1,h2,h3,h4⟩=>⟨F',v,h1,h2.ok,h3,h4⟩
  have hn:=hnx i
  have hl:=hal i hlt
  have hmi:=hmo (i+1) (by omega)
  clear cv hnx hal hmo
  generalize Po.asked i (.mk k (.mk pk pf pv pl) f v0 l) ((Pd.top i).toNat+1)=L at *
  generalize C i=c0 at *
  have hprod:((c0:Int)*((L.length:Int)+1))=((c0*(L.length+1):Nat):Int):=by push_cast;rfl
  have hb:c0*(L.length+1)≤100000:=Nat.le_trans (Nat.mul_le_mul hci (show L.length+1≤257 by omega)) (by decide)
  rw [← hn] at hprod hb
  by_cases hgo:C (i+1)≤300
  ·repeat' first|(intro K hK;(with_reducible refine gC ?_);(refine cN [0] c ?_;rintro _ _ ⟨F',w',hle2,hok2,rfl,rfl⟩;refine cR ?_))|(refine sxZ ?_;try clear hK K)|refine sxW ?_ ?_<;>intro _|(intro K hK _;(conv=>whnf))
   all_goals first | (exfalso;omega) | skip
   all_goals
    refine st_round (F',i+1) ⟨hle.trans hle2,hlt,hgo⟩ (show 5 - (i+1)<5 - i by omega) ?_ (MemFits.pre 2 rfl)
    repeat (first | exact FitsSl.nil | refine FitsSl.any ?_ | refine FitsSl.cons (Fit1.int (by  omega)) ?_ | refine FitsSl.cons (Fit1.int (by first | rfl | omega)) ?_ | refine FitsSl.cons (Fit1.bool rfl) ?_ | refine FitsSl.cons (Fit1.str rfl) ?_ | refine FitsSl.cons (Fit1.same (by intro h;cases h) (by with_reducible rfl)) ?_ | refine FitsSl.cons Fit1.nil_sl ?_ | refine FitsSl.cons (Fit1.hs rfl) ?_ | refine FitsSl.cons (Fit1.hp rfl rfl) ?_ | refine FitsSl.cons (Fit1.sl rfl) ?_ | refine FitsSl.cons (Fit1.ptr rfl rfl) ?_ | refine FitsSl.cons Fit1.raw ?_)
  ·have hno:¬ C 5≤300:=fun h=>hgo (Nat.le_trans hmi h)
   rw [decide_eq_false hno,Bool.false_and]
   repeat' first|(intro K hK;(with_reducible refine gC ?_);(refine cN [0] c ?_;rintro _ _ ⟨F',w',hle2,hok2,rfl,rfl⟩;refine cR ?_))|(refine sxZ ?_;try clear hK K)|refine sxW ?_ ?_<;>intro _|(intro K hK _;(conv=>whnf))
   all_goals first | (exfalso;omega) | exact ⟨rfl,F',hle.trans hle2,MemFits.pre 1 rfl⟩
 ·obtain rfl:i=5:=by omega
  rw [decide_eq_true hci,Bool.true_and]
  repeat' first|(intro K hK;(with_reducible refine gC ?_);refine cS [0] (cs G hle) ?_)|(refine sxZ ?_;try clear hK K)|refine sxW ?_ ?_<;>intro _|(intro K hK _;(conv=>whnf))
  all_goals exact ⟨by first | rfl | (congr 1;exact decide_eq_decide.2 (by omega)),G,hle,MemFits.pre 1 rfl⟩
end Go.Proofs.YtmehinfgdcmmjaaGreatDoor
namespace Go.Proofs.YtmehinfgdcmmjaaGreatDoor
open Go.Sx
set_option maxRecDepth 20000
set_option maxHeartbeats 4000000
set_option linter.unusedVariables false
namespace Tr
end Tr
end Go.Proofs.YtmehinfgdcmmjaaGreatDoor
