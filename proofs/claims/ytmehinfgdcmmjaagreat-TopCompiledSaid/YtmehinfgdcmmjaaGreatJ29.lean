import Derived.Test.YtmehinfgdcmmjaaGreatJ28
import Derived.Test.YtmehinfgdcmmjaaGreatJ21
namespace Go.Proofs.YtmehinfgdcmmjaaGreat
open Go.Sx
set_option maxRecDepth 20000
set_option linter.unusedSimpArgs false
set_option linter.unusedVariables false
set_option maxHeartbeats 4000000
def rV (F:Heap) (q:Lx.O) (r:AV) (m:List Blk):Prop :=
 (∃ l v,q = .ok l∧MemFits m [hpB F,⟨addrOf v,l.flatMap Lx.tokC,.row v 133 4 l.length⟩]∧r.den=(AV.tup [.sl 1 v l.length,.int .i64 0,.int .i64 0]).den) ∨
 (∃ at_ e:Int,q = .bad at_ e∧MemFits m [hpB F]∧r = .tup [.raw (.slice none 0 0),.int .i64 at_,.int .i64 e])
theorem qV (F:Heap) (tx:List UInt8) (hs:tx.length≤4000):NCall Tryz.prog 66 [.str tx] [hpB F] (rV F (Lx.all tx)):=by
 refine aA Tryz.func66 rfl (by decide) ?_
 have h0:Lx.all tx=Lx.run tx (tx.length - 0+1) 0 []:=rfl
 generalize Lx.all tx=q at *
 repeat' first|(refine sxZ ?_;try clear hK K)|refine sxW ?_ ?_<;>intro _|(intro K hK _;conv=>whnf)
 rename_i b0
 refine aD (α:=Nat × List Lx.T × Value) (fun x=>x.1≤tx.length∧x.2.1.length≤500∧q=Lx.run tx (tx.length - x.1+1) x.1 x.2.1) (fun x=>[.k,.k,.d,.d,.d,.k,.set (.sl 2 x.2.2 x.2.1.length),.d,.d,.k,.k,.k,.k,.k,.k,.d,.d,.d,.d,.d,.d,.d,.d,.d,.d,.d,.d,.d,.d,.d,.d,.d,.d,.d,.d,.d,.d,.d,.d,.d,.d,.d,.d,.d,.d,.d,.d,.d,.d,.d,.d,.d]) (fun x=>[.k,.set (LB ⟨b0,0,none⟩ tx x.1),.set ⟨addrOf x.2.2,x.2.1.flatMap Lx.tokC,.row x.2.2 133 4 x.2.1.length⟩]) (fun x=>tx.length - x.1) (0,[],.slice none 0 0) ⟨Nat.zero_le _,Nat.zero_le _,h0⟩ ?_ (MemFits.nilRow _ _ _) ?_
 ·exact aC
 (intro ⟨i,out,v⟩ hst;intro K hK;(conv=>whnf);refine hK _ _ ?_;clear hK K)
 dsimp only at hst ⊢
 obtain ⟨hi,hfew,hq⟩:=hst
 obtain ⟨hd,hle,hle2⟩:=Lx.drop_sk tx i hi
 have hsk:=oZ ⟨b0,0,none⟩ tx i hi (by omega)
 have hol:=Lx.tokC_len out
 rw [Lx.run] at hq
 generalize Lx.sk tx i=j at *
 by_cases hj:j=tx.length
 ·rw [if_pos hj] at hq
  subst hj
  repeat' first|(intro K hK;(with_reducible refine gC ?_);refine cS [1] hsk ?_)|(refine sxZ ?_;try clear hK K)|refine sxW ?_ ?_<;>intro _|(intro K hK _;conv=>whnf)
  rename_i b9 v2
  all_goals
   refine .inl ⟨_,v2,hq,MemFits.pick [0,2] (by decide) ?_,?_⟩
   ·rw [List.flatMap_append,List.length_append]
    rfl
   ·simp only [AV.den,denL,aw,List.length_append,List.length_cons,List.length_nil]
 ·rw [if_neg hj] at hq
  have hjl:j<tx.length:=by omega
  have hnx:=ox ⟨b0,0,none⟩ tx j hjl (by omega)
  cases hn:Lx.nextB (tx.drop j) with
  | none =>
   rw [hn] at hq
   have hnx:=hnx.mono (K':=fun r m=>r = .tup [bX 0 0 [] j,.bool false]∧∃ q,MemFits m [LB ⟨b0,0,none⟩ tx q]) fun r m h=>h.2 hn
   have hnx:NCall Tryz.prog 99 [.ptr 0 ⟨b0,0,none⟩ 0] [LB ⟨b0,0,none⟩ tx j] fun r m=>r = .tup [bX 0 0 [] j,.bool false]∧∃ q,m=[LB ⟨b0,0,none⟩ tx q]:=hnx.fits fun r m h=>by
    obtain ⟨h1,q,h2⟩:=h
    exact ⟨r,_,rfl,h2,h1,q,rfl⟩
   unfold bX at hnx
   repeat' first|(intro K hK;(with_reducible refine gC ?_);first|refine cS [1] hsk ?_|(refine cN [1] hnx ?_;rintro _ _ ⟨rfl,q,rfl⟩;refine cR ?_))|(refine sxZ ?_;try clear hK K)|refine sxW ?_ ?_<;>intro _|(intro K hK _;conv=>whnf)
   all_goals exact .inr ⟨_,_,hq,MemFits.pick [0] (by decide) rfl,rfl⟩
  | some bn =>
   obtain ⟨b,n⟩:=bn
   have hp:=Lx.nextB_pos hn
   rw [List.length_drop] at hp
   rw [hn] at hq
   dsimp only at hq
   have hnx:NCall Tryz.prog 99 [.ptr 0 ⟨b0,0,none⟩ 0] [LB ⟨b0,0,none⟩ tx j] fun r m=>r = .tup [bX b.k b.n b.s j,.bool true]∧m=[LB ⟨b0,0,none⟩ tx (j+n)]:=hnx.fits fun r m h=>by
    obtain ⟨h5,h6⟩:=h.1 b n hn
    exact ⟨r,_,rfl,h6,h5,rfl⟩
   unfold bX at hnx
   by_cases hf:out.length=500
   ·rw [if_pos hf] at hq
    repeat' first|(intro K hK;(with_reducible refine gC ?_);first|refine cS [1] hsk ?_|refine cS [1] hnx ?_)|(refine sxZ ?_;try clear hK K)|refine sxW ?_ ?_<;>intro _|(intro K hK _;conv=>whnf)
    all_goals exact .inr ⟨_,_,hq,MemFits.pick [0] (by decide) rfl,rfl⟩
   ·rw [if_neg hf,Lx.run_more tx _ (tx.length - (j+n)+1) _ _ (by omega) (by omega) (by omega)] at hq
    repeat' first|(intro K hK;(with_reducible refine gC ?_);first|refine cS [1] hsk ?_|refine cS [1] hnx ?_)|(refine sxZ ?_;try clear hK K)|refine sxW ?_ ?_<;>intro _|(intro K hK _;conv=>whnf)
    rename_i v2
    refine aB (j+n,out++[⟨b.k,b.n,b.s,j⟩],v2) ⟨by dsimp only;omega,by dsimp only;simp;omega,hq⟩ (by dsimp only;omega) ?_ (MemFits.trans (MemFits.pre 3 rfl) (MemFits.eq ?_))
    ·exact aC
    ·rw [List.flatMap_append,List.length_append]
     rfl
theorem o0 (F:Heap) (tx:List UInt8) (hs:tx.length≤4000):NCall Tryz.prog 66 [.str tx] [hpB F] fun r m =>
  (∃ l F' v,Lx.all tx = .ok l∧F.le F'∧m=[hpB F']∧r = .tup [.hs v l.length,.int .i64 0,.int .i64 0]∧aH F' 4 (fun x vs=>vs=Lx.tokV x) v l) ∨
  (∃ at_ e:Int,Lx.all tx = .bad at_ e∧m=[hpB F]∧r = .tup [.hs (.slice none 0 0) 0,.int .i64 at_,.int .i64 e]):=by
 refine Go.Sx.NCall.know (qV F tx hs) fun r m' h ⟨w,hw⟩=>?_
 rcases h with ⟨l,v,hq,hm,hr⟩ | ⟨at_,e,hq,hm,hr⟩
 ·obtain ⟨hok,_,hsl⟩:=(hm w hw).1.row (List.mem_cons_of_mem _ (List.mem_singleton.2 rfl))
  refine ⟨.tup [.hs v l.length,.int .i64 0,.int .i64 0],_,?_,hm.trans (MemFits.freeze (m:=[])),.inl ⟨l,_,v,hq,addF.old,rfl,rfl,aJ hok (Lx.tokC_den _) (fun x _=>rfl)⟩⟩
  rw [hr];rfl
 ·exact ⟨.tup [.hs (.slice none 0 0) 0,.int .i64 at_,.int .i64 e],_,by rw [hr];rfl,hm,.inr ⟨at_,e,hq,rfl,rfl⟩⟩
namespace Ps
def out {α:Type} (z:α) (q:List Lx.B→R α):Lx.O→α × Int × Int
 | .bad a e=>(z,a,e)
 | .ok l=>match whole (l.map Lx.b) (q (l.map Lx.b)) with
  | .ok x _=>(x,0,0)
  | .bad j=>(z,(l[j]?.getD ⟨4,0,[],0⟩).at_,10)
def zero27:Po.T:=.mk 0 none26 0 0 []
def q27 (l:List Lx.B):R Po.T:=rows l (step l l.length) 0
def out27 (tx:List UInt8):Po.T × Int × Int:=out zero27 q27 (Lx.all tx)
theorem nil26 (G:Heap):Pd.Row G (.slice none 0 0) []:=aH.nil
theorem nil27 (G:Heap):Po.Row G (.slice none 0 0) []:=aH.nil
end Ps
theorem jp (g:FuncId) (tx:List UInt8) (hs:tx.length≤4000) (a e:Int) (hb:Lx.all tx = .bad a e) (he:e≠0) (F:Heap) :
  NCall Tryz.prog 40 [.str tx,.fn g [] []] [hpB F] fun r m=>r = .tup [.agg [.int .i64 0,.int .i64 0,.int .i64 0,.int .i64 0,.raw (.slice none 0 0),.int .i64 0,.int .i64 0,.raw (.slice none 0 0)],.int .i64 a,.int .i64 e]∧m=[hpB F]:=by
 refine NCall.fits (K:=fun r m=>r.den=(AV.tup [.agg [.int .i64 0,.int .i64 0,.int .i64 0,.int .i64 0,.raw (.slice none 0 0),.int .i64 0,.int .i64 0,.raw (.slice none 0 0)],.int .i64 a,.int .i64 e]).den∧MemFits m [hpB F]) ?_ fun r m' hq=>⟨_,_,hq.1.symm,hq.2,rfl,rfl⟩
 have clex:NCall Tryz.prog 66 [.str tx] [hpB F] fun r m=>m=[hpB F]∧r = .tup [.hs (.slice none 0 0) 0,.int .i64 a,.int .i64 e]:=(o0 F tx hs).mono fun r m h=>by
  rcases h with ⟨l,F',v,h1,_⟩ | ⟨a',e',h1,h2,h3⟩
  ·rw [hb] at h1;cases h1
  ·rw [hb] at h1
   cases h1
   exact ⟨h2,h3⟩
 refine eG Tryz.func40 rfl (by decide) (fun K hK=>?_)
 conv=>whnf
 refine hK _ ?_
 clear hK K
 refine ez (ll ?_)
 repeat' first|(refine ai ?_;(try clear hP hK Kp K);try clear hK K)|refine sxW ?_ ?_<;>intro _|(intro K Kp hK hP _;conv=>whnf)|(intro K hK _;conv=>whnf)
 refine ez (ll ?_)
 repeat' first|(intro K Kp hK hP;(with_reducible refine gCX ?_);(refine aG.of ?_;first|(refine cN [0] clex ?_;rintro _ _ ⟨rfl,rfl⟩;refine cR ?_)))|(refine ai ?_;(try clear hP hK Kp K);try clear hK K)|refine sxW ?_ ?_<;>intro _|(intro K Kp hK hP _;conv=>whnf)|(intro K hK _;conv=>whnf)
 refine ez (ll ?_)
 repeat' first|((first|intro A B hA hB|intro K hK|skip);first|((with_reducible refine NIf.yes ?s ?_);(case s=>simp ;done);conv=>whnf)|((with_reducible refine NIf.no ?s ?_);(case s=>simp ;done);conv=>whnf))|(refine rE ?_;(try clear hP hK Kp K);(try clear hK K);try clear hA hB A B)|refine sxW ?_ ?_<;>intro _|refine rD ?_ ?_|(intro K Kp hK hP _;conv=>whnf)|(intro K hK _;conv=>whnf)
 all_goals (refine oy ?_;conv=>whnf)
 all_goals (repeat' first|(refine ai ?_;(try clear hP hK Kp K);try clear hK K)|refine sxW ?_ ?_<;>intro _|(intro K Kp hK hP _;conv=>whnf)|(intro K hK _;conv=>whnf))
 all_goals exact ⟨rfl,MemFits.pre 1 rfl⟩
theorem kH (tx:List UInt8) (hs:tx.length≤4000) (a e:Int) (hb:Lx.all tx = .bad a e) (he:e≠0) (F:Heap) :
  NCall Tryz.prog 19 [.str tx] [hpB F] fun r m=>r = .tup [.agg [.int .i64 0,.int .i64 0,.int .i64 0,.int .i64 0,.raw (.slice none 0 0),.int .i64 0,.int .i64 0,.raw (.slice none 0 0)],.int .i64 a,.int .i64 e]∧m=[hpB F]:=by
 refine NCall.fits (K:=fun r m=>r.den=(AV.tup [.agg [.int .i64 0,.int .i64 0,.int .i64 0,.int .i64 0,.raw (.slice none 0 0),.int .i64 0,.int .i64 0,.raw (.slice none 0 0)],.int .i64 a,.int .i64 e]).den∧MemFits m [hpB F]) ?_ fun r m' hq=>⟨_,_,hq.1.symm,hq.2,rfl,rfl⟩
 have cw:=jp 41 tx hs a e hb he F
 refine aA Tryz.func19 rfl (by decide) ?_
 repeat' first|(intro K hK;(with_reducible refine gC ?_);(refine cN [0] cw ?_;rintro _ _ ⟨rfl,rfl⟩;refine cR ?_))|(refine sxZ ?_;try clear hK K)|refine sxW ?_ ?_<;>intro _|(intro K hK _;conv=>whnf)
 all_goals exact ⟨rfl,MemFits.pre 1 rfl⟩
theorem kI (tx:List UInt8) (hs:tx.length≤4000) (F:Heap) :
  NCall Tryz.prog 19 [.str tx] [hpB F] fun r m=>∃ G pu u,F.le G∧Po.At G (Ps.out27 tx).1 pu u∧r = .tup [.agg (Po.cs (Ps.out27 tx).1 pu u),.int .i64 (Ps.out27 tx).2.1,.int .i64 (Ps.out27 tx).2.2]∧m=[hpB G]:=by
 have bad:∀ a e,Lx.all tx = .bad a e→e≠0→NCall Tryz.prog 19 [.str tx] [hpB F] fun r m=>∃ G pu u,F.le G∧Po.At G (Ps.out27 tx).1 pu u∧r = .tup [.agg (Po.cs (Ps.out27 tx).1 pu u),.int .i64 (Ps.out27 tx).2.1,.int .i64 (Ps.out27 tx).2.2]∧m=[hpB G]:=fun a e hb he=>by
  refine NCall.fits (kH tx hs a e hb he F) fun r m ⟨h1,h2⟩=>?_
  have ho:Ps.out27 tx=(Ps.zero27,a,e):=by unfold Ps.out27;rw [hb];rfl
  rw [ho,h1,h2]
  exact ⟨.tup [.agg (Po.cs Ps.zero27 (.slice none 0 0) (.slice none 0 0)),.int .i64 _,.int .i64 _],_,rfl,MemFits.eq rfl,F,_,_,F.le_refl,⟨Ps.nil26 _,Ps.nil27 _⟩,rfl,rfl⟩
 rcases Lx.all_cases tx with ⟨L,hL,hl,ha⟩ | ⟨_,a,hb⟩ | ⟨_,a,hb⟩
 ·refine NCall.fits (nQ tx hs L hL hl F) fun r m h=>?_
  have ho:Ps.out27 tx=Ps.out Ps.zero27 Ps.q27 (.ok (Lx.res tx L)):=by unfold Ps.out27;rw [ha]
  rcases h with ⟨x,G,pu,u,h1,h2,h3,h4,h5⟩ | ⟨j,y,G,h1,h2,h3,h4,h5⟩
  ·have ho:Ps.out27 tx=(x,0,0):=by
    rw [ho,Ps.out]
    unfold Ps.q27
    rw [h1]
   rw [ho,h4,h5]
   exact ⟨_,_,rfl,MemFits.eq rfl,G,pu,u,h2,h3,rfl,rfl⟩
  ·have ho:Ps.out27 tx=(Ps.zero27,y.at_,10):=by
    rw [ho,Ps.out]
    unfold Ps.q27
    rw [h1]
    dsimp only
    rw [h2]
    rfl
   rw [ho,h4,h5]
   exact ⟨.tup [.agg (Po.cs Ps.zero27 (.slice none 0 0) (.slice none 0 0)),.int .i64 _,.int .i64 _],_,rfl,MemFits.eq rfl,G,_,_,h3,⟨Ps.nil26 _,Ps.nil27 _⟩,rfl,rfl⟩
 ·exact bad a 10 hb (by decide)
 ·exact bad a 6 hb (by decide)
namespace Cm
def TR (F:Heap) (T:List Ru.R) (us:List Value):Prop:=∃ A cap,Row F (.slice A T.length cap) T∧us=[.slice A T.length cap]
abbrev TRow (F:Heap) (v:Value) (l:List (List Ru.R)):Prop:=aH F 1 (TR F) v l
theorem TRow.get {F:Heap} {v:Value} {l:List (List Ru.R)} (h:TRow F v l) {i:Nat} {T:List Ru.R} (hx:l[i]?=some T):∃ A cap,Row F (.slice A T.length cap) T∧F.c ((addrOf v).add i) (.slice A T.length cap):=by
 obtain ⟨us,h1,_,h2⟩:=h.at_ i T hx
 obtain ⟨A,cap,h3,rfl⟩:=h1
 rw [Nat.mul_one] at h2
 exact ⟨A,cap,h3,h2.1⟩
def tC (p:List Ru.R × Value):List AV:=[.hs p.2 p.1.length]
def tV (p:List Ru.R × Value):List Value:=denL (tC p)
theorem tC_den (ps:List (List Ru.R × Value)):denL (ps.flatMap tC)=ps.flatMap tV:=by
 induction ps with
 | nil=>rfl
 | cons x l ih=>rw [List.flatMap_cons,List.flatMap_cons,aQ,ih];rfl
theorem tC_len (ps:List (List Ru.R × Value)):(ps.flatMap tC).length=ps.length*1:=by
 induction ps with
 | nil=>rfl
 | cons x l ih=>rw [List.flatMap_cons,List.length_append,ih,List.length_cons];simp only [tC,List.length_cons,List.length_nil];omega
theorem trow_of {G:Heap} {u:Value} {ps:List (List Ru.R × Value)} (h:aH G 1 (fun p vs=>vs=tV p) u ps) (hall:∀ p∈ps,Row G p.2 p.1):TRow G u (ps.map (·.1)):=by
 refine ⟨by rw [List.length_map];exact h.ok,fun k x hx=>?_⟩
 rw [List.getElem?_map] at hx
 cases hp:ps[k]? with
 | none=>rw [hp] at hx;cases hx
 | some p =>
  rw [hp] at hx
  simp only [Option.map_some,Option.some.injEq] at hx
  subst hx
  obtain ⟨vs,h1,h2,h3⟩:=h.at_ k p hp
  have hr:=hall p (List.mem_of_getElem? hp)
  refine ⟨vs,?_,h2,h3⟩
  obtain ⟨A,cap,hv,hle,hz⟩:=hr.ok
  rw [h1]
  obtain ⟨x,w⟩:=p
  dsimp only at hv hr ⊢
  subst hv
  exact ⟨A,cap,hr,rfl⟩
def tb (x:Po.T) (room:Int) (i:Nat):List Ru.R × Int:=tbl (Tr.ans i x).1 (Tr.ans i x).2 room
def tabs (x:Po.T) (room:Int):Nat→Nat→List (List Ru.R)→List (List Ru.R) × Int × Int
 | 0,_,acc=>(acc,0,0)
 | k+1,i,acc=>if (tb x room i).2=0 then tabs x room k (i+1) (acc++[(tb x room i).1]) else ([],i,(tb x room i).2)
def comp (bt:Bool) (t:Tp.T) (o:Po.T × Int × Int) (room:Int):List (List Ru.R) × Int × Int :=
 if o.2.2≠0 then ([],o.2.1,o.2.2) else if Po.check bt t o.1≠0 then ([],0,Po.check bt t o.1) else tabs o.1 room t.n.toNat 0 []
structure Fit (x:Po.T):Prop where
 tot:Po.tot x≤1000000000
 ce:∀ sw,Po.right x=true→Po.cells (Po.spec sw x)≤4096
 cn:∀ sw,Po.right x=true→Tr.cnt (Po.spec sw x) Tr.order≤1000000
 len:∀ sw,(Tr.ans sw x).1.length≤1000
 out:∀ sw,∀ c∈(Tr.ans sw x).1,c.out.length≤1000
end Cm
theorem eN (F:Heap) (tx:List UInt8) (htx:tx.length≤4000) (t:Tp.T) (lv hv:Value) (bt:Bool) (ht:Tp.At F t lv hv) (hl:t.ls.length≤1000) (hh:t.hs.length≤1000)
  (cr:∀ G,F.le G→NCall Tryz.prog 43 [.agg (Tp.cs t lv hv)] [hpB G] fun r m=>r = .bool bt∧m=[hpB G]) (hbt:bt=true→t.n≤8) (room:Int) (hf:(Ps.out27 tx).2.2=0→Cm.Fit (Ps.out27 tx).1) (htot:Po.tot (Ps.out27 tx).1≤2932031007402) :
  NCall Tryz.prog 8 [.str tx,.agg (Tp.cs t lv hv),.int .i64 room] [hpB F] fun r m=>∃ G v,F.le G∧Cm.TRow G v (Cm.comp bt t (Ps.out27 tx) room).1∧r = .tup [.hs v (Cm.comp bt t (Ps.out27 tx) room).1.length,.int .i64 (Cm.comp bt t (Ps.out27 tx) room).2.1,.int .i64 (Cm.comp bt t (Ps.out27 tx) room).2.2]∧m=[hpB G]:=by
 refine Go.Sx.NCall.know (K:=fun r m'=>∃ G v,∃ ps:List (List Ru.R × Value),F.le G∧ps.map (·.1)=(Cm.comp bt t (Ps.out27 tx) room).1∧(∀ p∈ps,Cm.Row G p.2 p.1)∧r.den=(AV.tup [.raw (aw v),.int .i64 (Cm.comp bt t (Ps.out27 tx) room).2.1,.int .i64 (Cm.comp bt t (Ps.out27 tx) room).2.2]).den∧MemFits m' [hpB G,⟨addrOf v,ps.flatMap Cm.tC,.row v 45 1 ps.length⟩]) ?_ fun r m' ⟨G,u,ps,hle,hmap,hall,hr,hm⟩ ⟨w,hw⟩=>?_
 rotate_left
 ·have hok:=((hm w hw).1.row (List.mem_cons_of_mem _ (List.mem_cons_self ..))).1
  have hrow:=aJ (F:=G) (sz:=1) (enc:=Cm.tV) hok (Cm.tC_den ps) (fun x _=>rfl)
  have hR:=Cm.trow_of hrow fun p hp=>Cm.Row.mono addF.old (hall p hp)
  rw [hmap] at hR
  refine ⟨.tup [.hs u (Cm.comp bt t (Ps.out27 tx) room).1.length,.int .i64 (Cm.comp bt t (Ps.out27 tx) room).2.1,.int .i64 (Cm.comp bt t (Ps.out27 tx) room).2.2],_,by rw [hr];rfl,hm.trans (MemFits.freeze (m:=[])),_,u,hle.trans addF.old,hR,rfl,rfl⟩
 have cp:=kI tx htx F
 generalize Ps.out27 tx=o at *
 obtain ⟨x,at_,e⟩:=o
 dsimp only at cp hf htot
 have cp:=cp.mono (K':=fun r m=>∃ G pu u,F.le G∧Po.At G x pu u∧(SlOk pu x.p.l.length∧SlOk u x.l.length)∧r = .tup [.agg (Po.cs x pu u),.int .i64 at_,.int .i64 e]∧m=[hpB G]) fun r m ⟨G,pu,u,h1,h2,h3,h4⟩=>⟨G,pu,u,h1,h2,⟨h2.p.ok,h2.l.ok⟩,h3,h4⟩
 have cc:=fun G pu u (hG:F.le G) (hx:Po.At G x pu u)=>nx G t lv hv x pu u bt (Tp.At.mono hG ht) hl hh htot hx (cr G hG)
 have cT:=fun (hf:Cm.Fit x) G pu u (sw:Nat) (hx:Po.At G x pu u)=>mu G x pu u sw room hf.tot hx (hf.ce sw) (hf.cn sw) (hf.len sw) (hf.out sw)
 have hlo:=ht.l.ok
 have hho:=ht.h.ok
 have hcm:Cm.comp bt t (x,at_,e) room=if e≠0 then ([],at_,e) else if Po.check bt t x≠0 then ([],0,Po.check bt t x) else Cm.tabs x room t.n.toNat 0 []:=rfl
 have hn8:Po.check bt t x=0→t.n≤8:=fun h=>hbt (by
  unfold Po.check at h
  cases bt with
  | true=>rfl
  | false=>rw [if_pos rfl] at h;exact absurd h (by decide))
 have htab:∀ k i acc,Cm.tabs x room (k+1) i acc=if (Cm.tb x room i).2=0 then Cm.tabs x room k (i+1) (acc++[(Cm.tb x room i).1]) else ([],i,(Cm.tb x room i).2):=fun _ _ _=>rfl
 have htab0:∀ i acc,Cm.tabs x room 0 i acc=(acc,0,0):=fun _ _=>rfl
 have cT:∀ (hf:Cm.Fit x) G pu u (sw:Nat) (hx:Po.At G x pu u),NCall Tryz.prog 21 [.agg (Po.cs x pu u),.int .i64 sw,.int .i64 room] [hpB G] fun r m=>Cm.GivesT G (Cm.tb x room sw) r m:=cT
 rw [hcm]
 generalize Po.check bt t x=ck at *
 generalize Cm.tb x room=TB at *
 generalize Cm.tabs x room=TS at *
 clear hcm cr ht
 have hAm:=fun (G G':Heap) (a b:Value) (h:G.le G') (h2:Po.At G x a b)=>Po.At.mono h h2
 obtain ⟨k,⟨pk,pf,pv,pl⟩,a,v,l⟩:=x
 obtain ⟨n,ls,hs⟩:=t
 simp only [ax,Tp.cs,Po.T.l,Po.T.p,Pd.T.k,Pd.T.f,Pd.T.v,Pd.T.l,Cm.GivesT] at *
 refine aA Tryz.func8 rfl (by decide) ?_
 by_cases he:e=0
 rotate_left
 ·rw [if_pos he]
  repeat' first|((try intro K hK);(with_reducible refine gC ?_);(refine cN [0] cp ?_;rintro _ _ ⟨G,pu,u,h1,h2,⟨h3,h4⟩,rfl,rfl⟩;refine cR ?_))|((first|intro A B hA hB|intro K hK|skip);first|((with_reducible refine NIf.yes ?s ?_);(case s=>simp [he];done);conv=>whnf)|((with_reducible refine NIf.no ?s ?_);(case s=>simp [he];done);conv=>whnf))|(refine sxZ ?_;(try clear hK K);try clear hA hB A B)|refine sxW ?_ ?_<;>intro _|(intro K hK _;conv=>whnf)
  all_goals first | (exfalso;omega) | exact ⟨G,.slice none 0 0,[],h1,rfl,fun p hp=>(by cases hp),rfl,(MemFits.pre 1 rfl).trans (MemFits.nilRow _ _ _)⟩
 subst he
 rw [if_neg (by simp)]
 by_cases hck:ck=0
 rotate_left
 ·rw [if_pos hck]
  repeat' first|((try intro K hK);(with_reducible refine gC ?_);first|(refine cN [0] cp ?_;rintro _ _ ⟨G,pu,u,h1,h2,⟨h3,h4⟩,rfl,rfl⟩;refine cR ?_)|refine cS [0] (cc G pu u h1 h2) ?_)|((first|intro A B hA hB|intro K hK|skip);first|((with_reducible refine NIf.yes ?s ?_);(case s=>simp [hck];done);conv=>whnf)|((with_reducible refine NIf.no ?s ?_);(case s=>simp [hck];done);conv=>whnf))|(refine sxZ ?_;(try clear hK K);try clear hA hB A B)|refine sxW ?_ ?_<;>intro _|(intro K hK _;conv=>whnf)
  all_goals first | (exfalso;omega) | exact ⟨G,.slice none 0 0,[],h1,rfl,fun p hp=>(by cases hp),rfl,(MemFits.pre 1 rfl).trans (MemFits.nilRow _ _ _)⟩
 subst hck
 rw [if_neg (by simp)]
 have hfx:=hf rfl
 have hn8:=hn8 rfl
 repeat' first|((try intro K hK);(with_reducible refine gC ?_);first|(refine cN [0] cp ?_;rintro _ _ ⟨G,pu,u,h1,h2,⟨h3,h4⟩,rfl,rfl⟩;refine cR ?_)|refine cS [0] (cc G pu u h1 h2) ?_)|((first|intro A B hA hB|intro K hK|skip);first|((with_reducible refine NIf.yes ?s ?_);(case s=>simp ;done);conv=>whnf)|((with_reducible refine NIf.no ?s ?_);(case s=>simp ;done);conv=>whnf))|(refine sxZ ?_;(try clear hK K);try clear hA hB A B)|refine sxW ?_ ?_<;>intro _|(intro K hK _;conv=>whnf)
 all_goals try (exfalso;omega)
 refine aD (α:=Heap × Value × List (List Ru.R × Value) × Nat) (fun (G',w,ps,i)=>i≤n.toNat∧G.le G'∧(∀ p∈ps,Cm.Row G' p.2 p.1)∧ps.length=i∧TS n.toNat 0 []=TS (n.toNat - i) i (ps.map (·.1))) (fun (G',w,ps,i)=>[.k,.k,.k,.k,.k,.k,.d,.d,.d,.k,.k,.k,.k,.set (.sl 3 w ps.length),.d,.d,.d,.k,.k,.k,.k,.k,.k,.k,.k,.k,.k,.k,.k,.k,.k,.k,.k,.k,.k,.set (.int .i64 i),.d,.d,.d,.d,.d,.d,.d,.d,.d,.d,.d,.d,.d,.d,.d,.d,.d,.d,.k])
  (fun (G',w,ps,i)=>[.set (hpB G'),.k,.k,.set ⟨addrOf w,ps.flatMap Cm.tC,.row w 45 1 ps.length⟩]) (fun (G',w,ps,i)=>n.toNat - i) (G,.slice none 0 0,[],0) ⟨Nat.zero_le _,G.le_refl,fun p hp=>(by cases hp),rfl,rfl⟩ ?_ ?_ ?_
 ·exact aC
 ·exact (MemFits.nilRow _ 45 1).trans (MemFits.congr rfl)
 (intro ⟨G',w,ps,i⟩ ⟨hi,hle,hall,hpl,hts⟩;intro K hK;(conv=>whnf);refine hK _ _ ?_;clear hK K)
 dsimp only at hi hle hall hpl hts ⊢
 have hpc:=Cm.tC_len ps
 by_cases hlt:i<n.toNat
 ·rw [show n.toNat - i=(n.toNat - (i+1))+1 by omega,htab] at hts
  have ct:=cT hfx G' pu u i (hAm _ _ _ _ hle h2)
  have hfm:∀ T v2,(ps++[((T,v2):List Ru.R × Value)]).flatMap Cm.tC=ps.flatMap Cm.tC++[.hs v2 T.length]:=fun T v2=>by rw [List.flatMap_append];rfl
  generalize TB i=tbi at *
  obtain ⟨T,te⟩:=tbi
  dsimp only at *
  by_cases hte:te=0
  ·subst hte
   rw [if_pos rfl] at hts
   generalize ps.flatMap Cm.tC=pc at *
   repeat' first|(intro K hK;(with_reducible refine gC ?_);(refine cN [0] ct ?_;rintro _ _ ⟨G2,v2,j1,j2,j3,rfl,rfl⟩;refine cR ?_))|(refine sxZ ?_;try clear hK K)|refine sxW ?_ ?_<;>intro _|(intro K hK _;conv=>whnf)
   all_goals try (exfalso;omega)
   all_goals
    rename_i w2
    refine aB (G2,w2,ps++[(T,v2)],i+1) ⟨hlt,hle.trans j1,fun p hp=>?_,by dsimp only;rw [List.length_append,hpl];rfl,by rw [List.map_append];exact hts⟩ (by show n.toNat - (i+1)<n.toNat - i;omega) ?_ (MemFits.pre 4 ?_)
    ·rcases List.mem_append.1 hp with hp | hp
     ·exact Cm.Row.mono j1 (hall p hp)
     ·rw [List.mem_singleton.1 hp];exact j2
    ·dsimp only
     rw [List.length_append]
     exact aC
    ·dsimp only [autoM]
     rw [hfm,List.length_append]
     rfl
  ·rw [if_neg hte] at hts
   rw [hts]
   repeat' first|((try intro K hK);(with_reducible refine gC ?_);(refine cN [0] ct ?_;rintro _ _ ⟨G2,v2,j1,j2,j3,rfl,rfl⟩;refine cR ?_))|((first|intro A B hA hB|intro K hK|skip);first|((with_reducible refine NIf.yes ?s ?_);(case s=>simp [hte];done);conv=>whnf)|((with_reducible refine NIf.no ?s ?_);(case s=>simp [hte];done);conv=>whnf))|(refine sxZ ?_;(try clear hK K);try clear hA hB A B)|refine sxW ?_ ?_<;>intro _|(intro K hK _;conv=>whnf)
   all_goals first | (exfalso;omega) | exact ⟨G2,.slice none 0 0,[],(h1.trans hle).trans j1,rfl,fun p hp=>(by cases hp),rfl,(MemFits.pre 1 rfl).trans (MemFits.nilRow _ _ _)⟩
 ·obtain rfl:i=n.toNat:=by omega
  rw [Nat.sub_self,htab0] at hts
  rw [hts]
  repeat' first|(refine sxZ ?_;try clear hK K)|refine sxW ?_ ?_<;>intro _|(intro K hK _;conv=>whnf)
  all_goals first | (exfalso;omega) | exact ⟨G',w,ps,h1.trans hle,rfl,hall,rfl,MemFits.pick [0,3] (by decide) rfl⟩
namespace Cm
open Ps
deriving instance DecidableEq for Ru.R
theorem in64_of {ports:Int} {x:Ru.R} (h:Ru.ok ports x) (hp:ports≤100000):x.in64:=by
 obtain ⟨h1,h2,h3,h4,h5⟩:=h
 have h256:∀ f:Int,Mt.top f≤255:=fun f=>(Mt.top_lt f).2
 refine ⟨⟨by omega,by omega⟩,⟨⟨by have:=h3.1;omega,by have:=h3.1;omega⟩,fun f hf=>?_⟩,fun y hy=>?_,by omega⟩
 ·have:=h3.2 f hf
  have h9:=h256 f
  exact ⟨⟨by have:=this.2.2.1;omega,by have:=this.2.2.2.1;omega⟩,by have:=this.1;omega,by have:=this.2.1;omega⟩
 ·have h9:=h256 y.f
  rcases h5 y hy with h | h | h
  iterate 3
   ·exact ⟨⟨by omega,by omega⟩,⟨by omega,by omega⟩,by omega,by omega⟩
end Cm
end Go.Proofs.YtmehinfgdcmmjaaGreat
