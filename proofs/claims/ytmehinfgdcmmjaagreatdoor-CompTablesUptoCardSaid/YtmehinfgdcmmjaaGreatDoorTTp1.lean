/- A part of the proof. -/
import Derived.Test.YtmehinfgdcmmjaaGreatDoorTJ1
import Derived.Test.YtmehinfgdcmmjaaGreatDoorProg
namespace Go.Proofs.YtmehinfgdcmmjaaGreatDoor
open Go.Sx
set_option maxRecDepth 20000
set_option linter.unusedSimpArgs false
set_option linter.unusedVariables false
set_option maxHeartbeats 4000000
namespace Tp
structure Lk where
 a:Int
 pa:Int
 b:Int
 pb:Int
 least:Int
 most:Int
structure Hs where
 at_:Int
 port:Int
structure T where
 n:Int
 ls:List Lk
 hs:List Hs
def lkV (x:Lk):List Value:=[.int .i64 x.a,.int .i64 x.pa,.int .i64 x.b,.int .i64 x.pb,.int .i64 x.least,.int .i64 x.most]
def hsV (x:Hs):List Value:=[.int .i64 x.at_,.int .i64 x.port]
abbrev LRow (F:Heap) (v:Value) (l:List Lk):Prop:=aI F 6 (fun x us=>us=lkV x) v l
abbrev HRow (F:Heap) (v:Value) (l:List Hs):Prop:=aI F 2 (fun x us=>us=hsV x) v l
structure At (F:Heap) (t:T) (lv hv:Value):Prop where
 l:LRow F lv t.ls
 h:HRow F hv t.hs
theorem LRow.mono {F G:Heap} (h:F.le G) {v:Value} {l:List Lk} (hv:LRow F v l):LRow G v l:=aI.mono h (fun _ _ hp=>hp) hv
theorem HRow.mono {F G:Heap} (h:F.le G) {v:Value} {l:List Hs} (hv:HRow F v l):HRow G v l:=aI.mono h (fun _ _ hp=>hp) hv
theorem At.mono {F G:Heap} (h:F.le G) {t:T} {lv hv:Value} (ht:At F t lv hv):At G t lv hv:=⟨LRow.mono h ht.l,HRow.mono h ht.h⟩
def cs (t:T) (lv hv:Value):List AV:=[.int .i64 t.n,.hs lv t.ls.length,.hs hv t.hs.length]
def lkC (x:Lk):List AV:=[.int .i64 x.a,.int .i64 x.pa,.int .i64 x.b,.int .i64 x.pb,.int .i64 x.least,.int .i64 x.most]
def hsC (x:Hs):List AV:=[.int .i64 x.at_,.int .i64 x.port]
theorem LRow.get {F:Heap} {v:Value} {l:List Lk} (h:LRow F v l) {i:Nat} {x:Lk} (hx:l[i]?=some x) :
  F.c ((addrOf v).add (i*6)) (.int .i64 x.a)∧F.c ((addrOf v).add (i*6+1)) (.int .i64 x.pa)∧F.c ((addrOf v).add (i*6+2)) (.int .i64 x.b)∧F.c ((addrOf v).add (i*6+3)) (.int .i64 x.pb)∧F.c ((addrOf v).add (i*6+4)) (.int .i64 x.least)∧F.c ((addrOf v).add (i*6+5)) (.int .i64 x.most):=by
 obtain ⟨us,rfl,_,h2⟩:=h.at_ i x hx
 simp only [lkV,CellsF,Nat.add_assoc,Nat.reduceAdd] at h2
 obtain ⟨c0,c1,c2,c3,c4,c5,_⟩:=h2
 exact ⟨c0,c1,c2,c3,c4,c5⟩
theorem HRow.get {F:Heap} {v:Value} {l:List Hs} (h:HRow F v l) {i:Nat} {x:Hs} (hx:l[i]?=some x) :
  F.c ((addrOf v).add (i*2)) (.int .i64 x.at_)∧F.c ((addrOf v).add (i*2+1)) (.int .i64 x.port):=by
 obtain ⟨us,rfl,_,h2⟩:=h.at_ i x hx
 simp only [hsV,CellsF] at h2
 obtain ⟨c0,c1,_⟩:=h2
 exact ⟨c0,c1⟩
def lNamed (p:Int) (x:Lk):Bool:=decide (x.pa=p)||decide (x.pb=p)
def hNamed (p:Int) (x:Hs):Bool:=decide (x.port=p)
def named (t:T) (p:Int):Bool:=t.ls.any (lNamed p)||t.hs.any (hNamed p)
end Tp
section
variable (F:Heap)
theorem gi {α:Type} {q:α→Bool} {l:List α} {k:Nat} {x:α} (hx:l[k]?=some x):(l.take (k+1)).any q=((l.take k).any q||q x):=by
 rw [List.take_add_one,hx,List.any_append]
 simp
theorem lw {α:Type} {q:α→Bool} {l:List α} {k:Nat} {x:α} (hx:l[k]?=some x) (h:q x=true):l.any q=true:=List.any_eq_true.2 ⟨x,List.mem_of_getElem? hx,h⟩
theorem nO (q:Tp.Lk→Bool) (v:Value) (l:List Tp.Lk) (hv:Tp.LRow F v l) (hn:l.length≤4611686018427387904) (g:FuncId) (first captured:List AV)
  (hg:∀ x∈l,Qz Tryz.prog g (first++[.agg (Tp.lkC x)]++captured) [hpB F] fun r m=>r = .bool (q x)∧m=[hpB F]) :
  Qz Tryz.prog 174 [.hs v l.length,.fn g first captured] [hpB F] fun r m=>(∃ j:Int,r = .int .i64 j∧(0≤j↔l.any q=true))∧m=[hpB F]:=by
 have hok:=hv.ok
 refine aB Tryz.func174 rfl (by decide) ?_
 repeat' first|(refine sxZ ?_;try clear hK K)|refine sxW ?_ ?_<;>intro _|(intro K hK _;conv=>whnf)
 refine aE (α:=Nat) (fun k=>k≤l.length∧(l.take k).any q=false) (fun k=>[.k,.k,.k,.k,.d,.d,.k,.k,.set (.int .i64 k),.d,.d,.d,.d,.d,.d,.d,.d,.d,.d]) (fun _=>[]) (fun k=>l.length - k) 0 ⟨Nat.zero_le _,rfl⟩ ?_ (Qw.eq rfl) ?_
 ·exact aD
 (intro k ⟨hk,hgone⟩;intro K hK;(conv=>whnf);refine hK _ _ ?_;clear hK K)
 by_cases hlt:k<l.length
 ·have hx:l[k]?=some l[k]:=List.getElem?_eq_getElem hlt
  obtain ⟨c0,c1,c2,c3,c4,c5⟩:=hv.get hx
  have c:=hg _ (List.getElem_mem hlt)
  have hnx:=gi (q:=q) hx
  have hat:=lw (q:=q) hx
  generalize l[k]=x at *
  simp only [Tp.lkC] at c
  cases hq:q x with
  | false =>
   rw [hq] at c
   repeat' first|(intro K hK;(with_reducible refine gC ?_);refine cS [0] c ?_)|(refine sxZ ?_;try clear hK K)|refine sxW ?_ ?_<;>intro _|(intro K hK _;conv=>whnf)
   refine aC (k+1) ⟨hlt,by rw [hnx,hgone,hq];rfl⟩ (by omega) ?_ (Qw.eq rfl)
   exact aD
  | true =>
   rw [hq] at c
   repeat' first|(intro K hK;(with_reducible refine gC ?_);refine cS [0] c ?_)|(refine sxZ ?_;try clear hK K)|refine sxW ?_ ?_<;>intro _|(intro K hK _;conv=>whnf)
   exact ⟨⟨_,rfl,⟨fun _=>hat hq,fun _=>by omega⟩⟩,rfl⟩
 ·have hkl:k=l.length:=by omega
  subst hkl
  rw [List.take_length] at hgone
  repeat' first|(refine sxZ ?_;try clear hK K)|refine sxW ?_ ?_<;>intro _|(intro K hK _;conv=>whnf)
  exact ⟨⟨_,rfl,⟨fun h=>by omega,fun h=>by rw [hgone] at h;cases h⟩⟩,rfl⟩
theorem jE (q:Tp.Lk→Bool) (v:Value) (l:List Tp.Lk) (hv:Tp.LRow F v l) (hn:l.length≤4611686018427387904) (g:FuncId) (first captured:List AV)
  (hg:∀ x∈l,Qz Tryz.prog g (first++[.agg (Tp.lkC x)]++captured) [hpB F] fun r m=>r = .bool (q x)∧m=[hpB F]) :
  Qz Tryz.prog 133 [.hs v l.length,.fn g first captured] [hpB F] fun r m=>r = .bool (l.any q)∧m=[hpB F]:=by
 have hi:=nO F q v l hv hn g first captured hg
 refine aB Tryz.func133 rfl (by decide) ?_
 repeat' first|(intro K hK;(with_reducible refine gC ?_);(refine cN [0] hi ?_;rintro _ _ ⟨⟨j,rfl,hj⟩,rfl⟩;refine cR ?_))|(refine sxZ ?_;try clear hK K)|refine sxW ?_ ?_<;>intro _|(intro K hK _;conv=>whnf)
 all_goals
  refine ⟨?_,rfl⟩
  congr 1
  by_cases h:0≤j
  ·rw [hj.1 h];exact decide_eq_true h
  ·rw [show l.any q=false by cases e:l.any q with | false=>rfl | true=>exact (h (hj.2 e)).elim];exact decide_eq_false h
theorem nP (q:Tp.Hs→Bool) (v:Value) (l:List Tp.Hs) (hv:Tp.HRow F v l) (hn:l.length≤4611686018427387904) (g:FuncId) (first captured:List AV)
  (hg:∀ x∈l,Qz Tryz.prog g (first++[.agg (Tp.hsC x)]++captured) [hpB F] fun r m=>r = .bool (q x)∧m=[hpB F]) :
  Qz Tryz.prog 175 [.hs v l.length,.fn g first captured] [hpB F] fun r m=>(∃ j:Int,r = .int .i64 j∧(0≤j↔l.any q=true))∧m=[hpB F]:=by
 have hok:=hv.ok
 refine aB Tryz.func175 rfl (by decide) ?_
 repeat' first|(refine sxZ ?_;try clear hK K)|refine sxW ?_ ?_<;>intro _|(intro K hK _;conv=>whnf)
 refine aE (α:=Nat) (fun k=>k≤l.length∧(l.take k).any q=false) (fun k=>[.k,.k,.k,.k,.d,.d,.k,.k,.set (.int .i64 k),.d,.d,.d,.d,.d,.d,.d,.d,.d,.d]) (fun _=>[]) (fun k=>l.length - k) 0 ⟨Nat.zero_le _,rfl⟩ ?_ (Qw.eq rfl) ?_
 ·exact aD
 (intro k ⟨hk,hgone⟩;intro K hK;(conv=>whnf);refine hK _ _ ?_;clear hK K)
 by_cases hlt:k<l.length
 ·have hx:l[k]?=some l[k]:=List.getElem?_eq_getElem hlt
  obtain ⟨c0,c1⟩:=hv.get hx
  have c:=hg _ (List.getElem_mem hlt)
  have hnx:=gi (q:=q) hx
  have hat:=lw (q:=q) hx
  generalize l[k]=x at *
  simp only [Tp.hsC] at c
  cases hq:q x with
  | false =>
   rw [hq] at c
   repeat' first|(intro K hK;(with_reducible refine gC ?_);refine cS [0] c ?_)|(refine sxZ ?_;try clear hK K)|refine sxW ?_ ?_<;>intro _|(intro K hK _;conv=>whnf)
   refine aC (k+1) ⟨hlt,by rw [hnx,hgone,hq];rfl⟩ (by omega) ?_ (Qw.eq rfl)
   exact aD
  | true =>
   rw [hq] at c
   repeat' first|(intro K hK;(with_reducible refine gC ?_);refine cS [0] c ?_)|(refine sxZ ?_;try clear hK K)|refine sxW ?_ ?_<;>intro _|(intro K hK _;conv=>whnf)
   exact ⟨⟨_,rfl,⟨fun _=>hat hq,fun _=>by omega⟩⟩,rfl⟩
 ·have hkl:k=l.length:=by omega
  subst hkl
  rw [List.take_length] at hgone
  repeat' first|(refine sxZ ?_;try clear hK K)|refine sxW ?_ ?_<;>intro _|(intro K hK _;conv=>whnf)
  exact ⟨⟨_,rfl,⟨fun h=>by omega,fun h=>by rw [hgone] at h;cases h⟩⟩,rfl⟩
theorem jF (q:Tp.Hs→Bool) (v:Value) (l:List Tp.Hs) (hv:Tp.HRow F v l) (hn:l.length≤4611686018427387904) (g:FuncId) (first captured:List AV)
  (hg:∀ x∈l,Qz Tryz.prog g (first++[.agg (Tp.hsC x)]++captured) [hpB F] fun r m=>r = .bool (q x)∧m=[hpB F]) :
  Qz Tryz.prog 135 [.hs v l.length,.fn g first captured] [hpB F] fun r m=>r = .bool (l.any q)∧m=[hpB F]:=by
 have hi:=nP F q v l hv hn g first captured hg
 refine aB Tryz.func135 rfl (by decide) ?_
 repeat' first|(intro K hK;(with_reducible refine gC ?_);(refine cN [0] hi ?_;rintro _ _ ⟨⟨j,rfl,hj⟩,rfl⟩;refine cR ?_))|(refine sxZ ?_;try clear hK K)|refine sxW ?_ ?_<;>intro _|(intro K hK _;conv=>whnf)
 all_goals
  refine ⟨?_,rfl⟩
  congr 1
  by_cases h:0≤j
  ·rw [hj.1 h];exact decide_eq_true h
  ·rw [show l.any q=false by cases e:l.any q with | false=>rfl | true=>exact (h (hj.2 e)).elim];exact decide_eq_false h
theorem qt (x:Tp.Lk) (p:Int) (b:Addr) (h:F.c (b.add 0) (.int .i64 p)):Qz Tryz.prog 134 [.agg (Tp.lkC x),.hp b 0] [hpB F] fun r m=>r = .bool (Tp.lNamed p x)∧m=[hpB F]:=by
 refine Qz.fits (K:=fun r m=>r = .bool (Tp.lNamed p x)∧Qw m [hpB F]) ?_ fun r m' h=>⟨r,_,rfl,h.2,h.1,rfl⟩
 obtain ⟨a,pa,b',pb,least,most⟩:=x
 simp only [Tp.lkC,Tp.hsC,Tp.lNamed,Tp.hNamed]
 refine aB Tryz.func134 rfl (by decide) ?_
 repeat' first|(refine sxZ ?_;try clear hK K)|refine sxW ?_ ?_<;>intro _|(intro K hK _;conv=>whnf)
 all_goals
  refine ⟨?_,Qw.pre 1 rfl⟩
  simp_all
theorem qu (x:Tp.Hs) (p:Int) (b:Addr) (h:F.c (b.add 0) (.int .i64 p)):Qz Tryz.prog 136 [.agg (Tp.hsC x),.hp b 0] [hpB F] fun r m=>r = .bool (Tp.hNamed p x)∧m=[hpB F]:=by
 refine Qz.fits (K:=fun r m=>r = .bool (Tp.hNamed p x)∧Qw m [hpB F]) ?_ fun r m' h=>⟨r,_,rfl,h.2,h.1,rfl⟩
 obtain ⟨at_,port⟩:=x
 simp only [Tp.lkC,Tp.hsC,Tp.lNamed,Tp.hNamed]
 refine aB Tryz.func136 rfl (by decide) ?_
 repeat' first|(refine sxZ ?_;try clear hK K)|refine sxW ?_ ?_<;>intro _|(intro K hK _;conv=>whnf)
 all_goals
  refine ⟨?_,Qw.pre 1 rfl⟩
  simp_all
theorem nG (t:Tp.T) (lv hv:Value) (p:Int) (ht:Tp.At F t lv hv) (hl:t.ls.length≤1000) (hh:t.hs.length≤1000):Qz Tryz.prog 93 [.agg (Tp.cs t lv hv),.int .i64 p] [hpB F] fun r m=>r = .bool (Tp.named t p)∧m=[hpB F]:=by
 refine Qz.fits (K:=fun r m=>r = .bool (Tp.named t p)∧Qw m [hpB F]) ?_ fun r m' h=>⟨r,_,rfl,h.2,h.1,rfl⟩
 have hlo:=ht.l.ok
 have hho:=ht.h.ok
 have cl:∀ b:Addr,Qz Tryz.prog 133 [.hs lv t.ls.length,.fn 134 [] [.ptr 1 b 0]] [hpB F,⟨b,[.int .i64 p],.var 3⟩] fun r m=>r = .bool (t.ls.any (Tp.lNamed p))∧m=[hpB F,⟨b,[.int .i64 p],.var 3⟩]:=fun b=>by
  have hnew:=addF.new (F:=F) (a:=b) (vs:=denL [.int .i64 p])
  obtain ⟨c0,_⟩:=hnew
  exact Qz.keep (jE (addF F b (denL [.int .i64 p])) (Tp.lNamed p) lv t.ls (Tp.LRow.mono addF.old ht.l) (by omega) 134 [] [.hp b 0] fun x _=>qt _ x p b c0) rfl (Qw.freezeVar (m:=[])) rfl fun r mL' h=>⟨r,rfl,h.1,rfl⟩
 have ch:∀ b:Addr,Qz Tryz.prog 135 [.hs hv t.hs.length,.fn 136 [] [.ptr 1 b 0]] [hpB F,⟨b,[.int .i64 p],.var 3⟩] fun r m=>r = .bool (t.hs.any (Tp.hNamed p))∧m=[hpB F,⟨b,[.int .i64 p],.var 3⟩]:=fun b=>by
  have hnew:=addF.new (F:=F) (a:=b) (vs:=denL [.int .i64 p])
  obtain ⟨c0,_⟩:=hnew
  exact Qz.keep (jF (addF F b (denL [.int .i64 p])) (Tp.hNamed p) hv t.hs (Tp.HRow.mono addF.old ht.h) (by omega) 136 [] [.hp b 0] fun x _=>qu _ x p b c0) rfl (Qw.freezeVar (m:=[])) rfl fun r mL' h=>⟨r,rfl,h.1,rfl⟩
 refine aB Tryz.func93 rfl (by decide) ?_
 unfold Tp.named Tp.cs
 generalize t.ls.any (Tp.lNamed p)=bl at *
 generalize t.hs.any (Tp.hNamed p)=bh at *
 cases bl
 iterate 2
  ·repeat' first|(intro K hK;(with_reducible refine gC ?_);first|refine cS [0,2] (cl _) ?_|refine cS [0,2] (ch _) ?_)|(refine aJ [] ?_;try clear hK K)|refine sxW ?_ ?_<;>intro _|refine aK ?_ ?_|(intro K hK _;conv=>whnf)
   all_goals exact ⟨rfl,Qw.pre 1 rfl⟩
end
end Go.Proofs.YtmehinfgdcmmjaaGreatDoor
