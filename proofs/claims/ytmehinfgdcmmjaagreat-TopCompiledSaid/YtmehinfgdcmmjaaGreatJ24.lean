import Derived.Test.YtmehinfgdcmmjaaGreatJ23
import Derived.Test.YtmehinfgdcmmjaaGreatJ22
import Derived.Test.YtmehinfgdcmmjaaGreatJ8
import Derived.Test.YtmehinfgdcmmjaaGreatJ10
namespace Go.Proofs.YtmehinfgdcmmjaaGreat
open Go.Sx
set_option maxRecDepth 20000
set_option linter.unusedSimpArgs false
set_option linter.unusedVariables false
namespace Lx
structure T where
 k:Int
 n:Int
 s:List UInt8
 at_:Int
def tokV (x:T):List Value:=[.int .i64 x.k,.int .i64 x.n,.string ⟨x.s.toArray⟩,.int .i64 x.at_]
def tokC (x:T):List AV:=[.int .i64 x.k,.int .i64 x.n,.str x.s,.int .i64 x.at_]
theorem tokC_den (l:List T):denL (l.flatMap tokC)=l.flatMap tokV:=by
 induction l with
 | nil=>rfl
 | cons x l ih=>simp only [List.flatMap_cons,aQ,ih];rfl
theorem tokC_len (l:List T):(l.flatMap tokC).length=l.length*4:=by
 induction l with
 | nil=>rfl
 | cons x l ih=>simp only [List.flatMap_cons,List.length_append,ih,List.length_cons];simp [tokC];omega
def tokAt (tx:List UInt8) (x:B × List UInt8):T:=⟨x.1.k,x.1.n,x.1.s,tx.length - x.2.length⟩
def res (tx:List UInt8) (L:List (B × List UInt8)):List T:=L.map (tokAt tx)++[⟨4,0,[],tx.length⟩]
def good (tx:List UInt8):Prop:=∃ L,toks tx=some L∧L.length≤500
theorem drop_sk (tx:List UInt8) (i:Nat) (hi:i≤tx.length):tx.drop (sk tx i)=skip (tx.drop i)∧i≤sk tx i∧sk tx i≤tx.length:=by
 have hl:=skip_len (tx.drop i).length (tx.drop i) (Nat.le_refl _)
 rw [List.length_drop] at hl
 unfold sk
 refine ⟨?_,by omega,by omega⟩
 by_cases h:skip (tx.drop i)=[]
 ·rw [h];simp
 ·obtain ⟨b,hb,_⟩:=skip_split (tx.drop i).length (tx.drop i) (Nat.le_refl _) h
  have e:=congrArg List.length hb
  rw [List.length_drop,List.length_append] at e
  generalize skip (tx.drop i)=q at *
  have:tx=tx.take i++(b++q):=by rw [← hb];simp
  have hp:tx.length - q.length=(tx.take i++b).length:=by rw [List.length_append,List.length_take];omega
  rw [hp,this]
  have e2:(List.take i (List.take i tx++(b++q))++b)=List.take i tx++b:=by
   rw [List.take_append_of_le_length (by rw [List.length_take];omega),List.take_take,Nat.min_self]
  rw [e2,← List.append_assoc,List.drop_left]
structure St (tx:List UInt8) (i:Nat) (out:List T):Prop where
 le:i≤tx.length
 few:out.length≤500
 is:∃ pre,out=pre.map (tokAt tx)∧toks tx=(toks (tx.drop i)).map (pre++·)
theorem St.begin (tx:List UInt8):St tx 0 []:=⟨Nat.zero_le _,Nat.zero_le _,[],rfl,by simp⟩
theorem St.done {tx:List UInt8} {i:Nat} {out:List T} (h:St tx i out) (e:sk tx i=tx.length):∃ L,toks tx=some L∧L.length≤500∧out++[⟨4,0,[],tx.length⟩]=res tx L:=by
 obtain ⟨pre,h1,h2⟩:=h.is
 have hd:=(drop_sk tx i h.le).1
 rw [e,List.drop_length] at hd
 rw [toks_nil hd.symm] at h2
 refine ⟨pre,by rw [h2];simp,?_,by rw [h1];rfl⟩
 have:=h.few
 rw [h1,List.length_map] at this
 exact this
theorem St.bad {tx:List UInt8} {i:Nat} {out:List T} (h:St tx i out) (e:sk tx i<tx.length) (hn:nextB (tx.drop (sk tx i))=none):¬ good tx:=by
 obtain ⟨pre,h1,h2⟩:=h.is
 have hd:=(drop_sk tx i h.le).1
 rw [hd] at hn
 have hne:skip (tx.drop i)≠[]:=by
  rw [← hd];intro e2
  have:=congrArg List.length e2
  rw [List.length_drop] at this
  simp at this;omega
 rw [toks_none hne hn] at h2
 rintro ⟨L,h3,_⟩
 rw [h2] at h3;cases h3
theorem St.next {tx:List UInt8} {i:Nat} {out:List T} (h:St tx i out) (e:sk tx i<tx.length) {b:B} {n:Nat} (hn:nextB (tx.drop (sk tx i))=some (b,n)) :
  i<sk tx i+n∧sk tx i+n≤tx.length∧(out.length<500→St tx (sk tx i+n) (out++[⟨b.k,b.n,b.s,sk tx i⟩]))∧(out.length=500→¬ good tx):=by
 obtain ⟨pre,h1,h2⟩:=h.is
 obtain ⟨hd,hle,hle2⟩:=drop_sk tx i h.le
 have hp:=nextB_pos hn
 rw [List.length_drop] at hp
 rw [hd] at hn
 have hne:skip (tx.drop i)≠[]:=by
  rw [← hd];intro e2
  have:=congrArg List.length e2
  rw [List.length_drop] at this
  simp at this;omega
 rw [toks_cons hne hn,Option.map_map] at h2
 have hdr:(skip (tx.drop i)).drop n=tx.drop (sk tx i+n):=by rw [← hd,List.drop_drop]
 rw [hdr] at h2
 refine ⟨by omega,by omega,fun hl=>⟨by omega,by simp;omega,pre++[(b,skip (tx.drop i))],?_,?_⟩,fun hl=>?_⟩
 ·rw [h1,List.map_append]
  congr 1
  have:((tx.length:Int) - (skip (tx.drop i)).length)=(sk tx i:Nat):=by
   have:(skip (tx.drop i)).length=tx.length - sk tx i:=by rw [← hd,List.length_drop]
   omega
  simp only [List.map_cons,List.map_nil,tokAt,this]
 ·rw [h2]
  congr 1
  funext q
  simp
 ·rintro ⟨L,h3,h4⟩
  rw [h2] at h3
  obtain ⟨q,_,rfl⟩:=Option.map_eq_some_iff.1 h3
  rw [h1,List.length_map] at hl
  simp at h4;omega
end Lx
def rW (F:Heap) (tx:List UInt8) (r:AV) (m:List Blk):Prop :=
 (∃ L v,Lx.toks tx=some L∧L.length≤500∧MemFits m [hpB F,⟨addrOf v,(Lx.res tx L).flatMap Lx.tokC,.row v 133 4 (L.length+1)⟩]∧r.den=(AV.tup [.sl 1 v (L.length+1),.int .i64 0,.int .i64 0]).den) ∨
 (¬ Lx.good tx∧∃ at_ e:Int,e≠0∧MemFits m [hpB F]∧r = .tup [.raw (.slice none 0 0),.int .i64 at_,.int .i64 e])
set_option maxHeartbeats 2000000 in
theorem qW (F:Heap) (tx:List UInt8) (hs:tx.length≤4000):NCall Tryz.prog 66 [.str tx] [hpB F] (rW F tx):=by
 refine aA Tryz.func66 rfl (by decide) ?_
 repeat' first|(refine sxZ ?_;try clear hK K)|refine sxW ?_ ?_<;>intro _|(intro K hK _;conv=>whnf)
 rename_i b0
 refine aD (α:=Nat × List Lx.T × Value) (fun x=>Lx.St tx x.1 x.2.1) (fun x=>[.k,.k,.d,.d,.d,.k,.set (.sl 2 x.2.2 x.2.1.length),.d,.d,.k,.k,.k,.k,.k,.k,.d,.d,.d,.d,.d,.d,.d,.d,.d,.d,.d,.d,.d,.d,.d,.d,.d,.d,.d,.d,.d,.d,.d,.d,.d,.d,.d,.d,.d,.d,.d,.d,.d,.d,.d,.d,.d]) (fun x=>[.k,.set (LB ⟨b0,0,none⟩ tx x.1),.set ⟨addrOf x.2.2,x.2.1.flatMap Lx.tokC,.row x.2.2 133 4 x.2.1.length⟩]) (fun x=>tx.length - x.1) (0,[],.slice none 0 0) (Lx.St.begin tx) ?_ (MemFits.nilRow _ _ _) ?_
 ·exact aC
 (intro ⟨i,out,v⟩ hst;intro K hK;(conv=>whnf);refine hK _ _ ?_;clear hK K)
 dsimp only at hst ⊢
 obtain ⟨hd,hle,hle2⟩:=Lx.drop_sk tx i hst.le
 have hsk:=oZ ⟨b0,0,none⟩ tx i hst.le (by omega)
 have hdone:=hst.done
 have hbad:=hst.bad
 have hnext:=@Lx.St.next _ _ _ hst
 have hfew:=hst.few
 have hol:=Lx.tokC_len out
 generalize Lx.sk tx i=j at *
 by_cases hj:j=tx.length
 ·obtain ⟨L,hL,hLl,hres⟩:=hdone hj
  have hll:out.length=L.length:=by
   have:=congrArg List.length hres
   simpa [Lx.res] using this
  subst hj
  repeat' first|(intro K hK;(with_reducible refine gC ?_);refine cS [1] hsk ?_)|(refine sxZ ?_;try clear hK K)|refine sxW ?_ ?_<;>intro _|(intro K hK _;conv=>whnf)
  rename_i b9 v2
  all_goals
   refine .inl ⟨L,v2,hL,hLl,MemFits.pick [0,2] (by decide) ?_,?_⟩
   ·rw [← hres,← hll,List.flatMap_append]
    rfl
   ·simp only [AV.den,denL,aw,hll]
 ·have hjl:j<tx.length:=by omega
  have hnx:=ox ⟨b0,0,none⟩ tx j hjl (by omega)
  cases hn:Lx.nextB (tx.drop j) with
  | none =>
   have hbd:=hbad hjl hn
   have hnx:=hnx.mono (K':=fun r m=>r = .tup [bX 0 0 [] j,.bool false]∧∃ q,MemFits m [LB ⟨b0,0,none⟩ tx q]) fun r m h=>h.2 hn
   have hnx:NCall Tryz.prog 99 [.ptr 0 ⟨b0,0,none⟩ 0] [LB ⟨b0,0,none⟩ tx j] fun r m=>r = .tup [bX 0 0 [] j,.bool false]∧∃ q,m=[LB ⟨b0,0,none⟩ tx q]:=hnx.fits fun r m h=>by
    obtain ⟨h1,q,h2⟩:=h
    exact ⟨r,_,rfl,h2,h1,q,rfl⟩
   unfold bX at hnx
   repeat' first|(intro K hK;(with_reducible refine gC ?_);first|refine cS [1] hsk ?_|(refine cN [1] hnx ?_;rintro _ _ ⟨rfl,q,rfl⟩;refine cR ?_))|(refine sxZ ?_;try clear hK K)|refine sxW ?_ ?_<;>intro _|(intro K hK _;conv=>whnf)
   all_goals exact .inr ⟨hbd,_,_,by decide,MemFits.pick [0] (by decide) rfl,rfl⟩
  | some bn =>
   obtain ⟨b,n⟩:=bn
   obtain ⟨h1,h2,h3,h4⟩:=hnext hjl hn
   have hnx:NCall Tryz.prog 99 [.ptr 0 ⟨b0,0,none⟩ 0] [LB ⟨b0,0,none⟩ tx j] fun r m=>r = .tup [bX b.k b.n b.s j,.bool true]∧m=[LB ⟨b0,0,none⟩ tx (j+n)]:=hnx.fits fun r m h=>by
    obtain ⟨h5,h6⟩:=h.1 b n hn
    exact ⟨r,_,rfl,h6,h5,rfl⟩
   unfold bX at hnx
   by_cases hf:out.length=500
   ·have hbd:=h4 hf
    repeat' first|(intro K hK;(with_reducible refine gC ?_);first|refine cS [1] hsk ?_|refine cS [1] hnx ?_)|(refine sxZ ?_;try clear hK K)|refine sxW ?_ ?_<;>intro _|(intro K hK _;conv=>whnf)
    all_goals exact .inr ⟨hbd,_,_,by decide,MemFits.pick [0] (by decide) rfl,rfl⟩
   ·have hst2:=h3 (by omega)
    repeat' first|(intro K hK;(with_reducible refine gC ?_);first|refine cS [1] hsk ?_|refine cS [1] hnx ?_)|(refine sxZ ?_;try clear hK K)|refine sxW ?_ ?_<;>intro _|(intro K hK _;conv=>whnf)
    rename_i v2
    refine aB (j+n,out++[⟨b.k,b.n,b.s,j⟩],v2) hst2 (by dsimp only;omega) ?_ (MemFits.trans (MemFits.pre 3 rfl) (MemFits.eq ?_))
    ·exact aC
    ·rw [List.flatMap_append,List.length_append]
     rfl
theorem re (F:Heap) (tx:List UInt8) (hs:tx.length≤4000):NCall Tryz.prog 66 [.str tx] [hpB F] fun r m =>
  (∃ L F' v,Lx.toks tx=some L∧L.length≤500∧F.le F'∧m=[hpB F']∧r = .tup [.hs v (Lx.res tx L).length,.int .i64 0,.int .i64 0]∧aH F' 4 (fun x vs=>vs=Lx.tokV x) v (Lx.res tx L)) ∨
  (¬ Lx.good tx∧∃ at_ e:Int,e≠0∧m=[hpB F]∧r = .tup [.hs (.slice none 0 0) 0,.int .i64 at_,.int .i64 e]):=by
 refine Go.Sx.NCall.know (qW F tx hs) fun r m' h ⟨w,hw⟩=>?_
 rcases h with ⟨L,v,hL,hLl,hm,hr⟩ | ⟨hb,at_,e,he,hm,hr⟩
 ·have hlen:(Lx.res tx L).length=L.length+1:=by simp [Lx.res]
  obtain ⟨hok,_,hsl⟩:=(hm w hw).1.row (List.mem_cons_of_mem _ (List.mem_singleton.2 rfl))
  refine ⟨.tup [.hs v (Lx.res tx L).length,.int .i64 0,.int .i64 0],_,?_,hm.trans (MemFits.freeze (m:=[])),.inl ⟨L,_,v,hL,hLl,addF.old,rfl,rfl,aJ (by rw [hlen];exact hok) (Lx.tokC_den _) (fun x _=>rfl)⟩⟩
  rw [hr];rfl
 ·exact ⟨.tup [.hs (.slice none 0 0) 0,.int .i64 at_,.int .i64 e],_,by rw [hr];rfl,hm,.inr ⟨hb,at_,e,he,rfl,rfl⟩⟩
def Lx.b (x:Lx.T):Lx.B:=⟨x.k,x.n,x.s⟩
set_option maxHeartbeats 4000000
set_option linter.unusedSectionVars false
namespace Ps
abbrev Toks (F:Heap) (v:Value) (l:List Lx.T):Prop:=aH F 4 (fun x vs=>vs=Lx.tokV x) v l
theorem Toks.mono {F G:Heap} (h:F.le G) {v:Value} {l:List Lx.T} (hv:Toks F v l):Toks G v l:=aH.mono h (fun _ _ h=>h) hv
theorem Toks.get {F:Heap} {v:Value} {l:List Lx.T} (hv:Toks F v l) {i:Nat} {x:Lx.T} (hx:l[i]?=some x):F.c ((addrOf v).add (i*4)) (.int .i64 x.k)∧F.c ((addrOf v).add (i*4+1)) (.int .i64 x.n)∧F.c ((addrOf v).add (i*4+2)) (.string ⟨x.s.toArray⟩)∧F.c ((addrOf v).add (i*4+3)) (.int .i64 x.at_):=by
 obtain ⟨us,h1,_,h2⟩:=hv.at_ i x hx
 subst h1
 obtain ⟨c0,c1,c2,c3,_⟩:=h2
 exact ⟨c0,c1,c2,c3⟩
def pB (b:Nat) (v:Value) (n i:Nat):Blk:=⟨⟨b,0,none⟩,[.hs v n,.int .i64 i],.var 132⟩
def wrong (at_:Int):List PanicEntry:=[{ v:=.iface 129 (.int .i64 at_),recovered:=false }]
end Ps
section
variable (F:Heap) (v:Value) (l:List Lx.T) (hv:Ps.Toks F v l) (hn:l.length≤1000) (b:Nat)
include hv hn
theorem fJ {i:Nat} {x:Lx.T} (hx:l[i]?=some x):NCall Tryz.prog 68 [.ptr 1 ⟨b,0,none⟩ 0] [hpB F,Ps.pB b v l.length i] fun r m=>r = .agg [.int .i64 x.k,.int .i64 x.n,.str x.s,.int .i64 x.at_]∧m=[hpB F,Ps.pB b v l.length i]:=by
 refine NCall.fits (K:=fun r m=>r = .agg [.int .i64 x.k,.int .i64 x.n,.str x.s,.int .i64 x.at_]∧MemFits m [hpB F,Ps.pB b v l.length i]) ?_ fun r m' h=>⟨r,_,rfl,h.2,h.1,rfl⟩
 have hok:=hv.ok
 have hi:=(List.getElem?_eq_some_iff.1 hx).1
 obtain ⟨c0,c1,c2,c3⟩:=hv.get hx
 unfold Ps.pB
 refine aA Tryz.func68 rfl (by decide) ?_
 repeat' first|(refine aV [2] ?_;try clear hK K)|refine sxW ?_ ?_<;>intro _|refine aW ?_ ?_|(intro K hK _;conv=>whnf)
 all_goals exact ⟨rfl,MemFits.pre 2 rfl⟩
theorem eK {i:Nat} {x:Lx.T} (hx:l[i]?=some x):aG Tryz.prog 69 [.ptr 1 ⟨b,0,none⟩ 0] [hpB F,Ps.pB b v l.length i] (fun _ _=>False) fun ch m=>ch=Ps.wrong x.at_∧m=[hpB F,Ps.pB b v l.length i]:=by
 have cn:=fJ F v l hv hn b hx
 unfold Ps.pB at cn ⊢
 refine az Tryz.func69 rfl (by decide) ?_
 repeat' first|(intro K Kp hK hP;(with_reducible refine gCX ?_);(refine aG.of ?_;first|refine cS [0,1] cn ?_))|(refine ai ?_;(try clear hP hK Kp K);try clear hK K)|refine sxW ?_ ?_<;>intro _|(intro K Kp hK hP _;conv=>whnf)|(intro K hK _;conv=>whnf)
 all_goals exact ⟨rfl,rfl⟩
theorem cU {i:Nat} {x:Lx.T} (hx:l[i]?=some x) (s:List UInt8):NCall Tryz.prog 100 [.ptr 1 ⟨b,0,none⟩ 0,.str s] [hpB F,Ps.pB b v l.length i] fun r m=>r = .bool ((decide (x.k=1)||decide (x.k=3))&&decide (x.s=s))∧m=[hpB F,Ps.pB b v l.length (if ((decide (x.k=1)||decide (x.k=3))&&decide (x.s=s))=true then i+1 else i)]:=by
 have hi:=(List.getElem?_eq_some_iff.1 hx).1
 have cn:=fJ F v l hv hn b hx
 have key:∀ q:Bool,q=((decide (x.k=1)||decide (x.k=3))&&decide (x.s=s))→NCall Tryz.prog 100 [.ptr 1 ⟨b,0,none⟩ 0,.str s] [hpB F,Ps.pB b v l.length i] fun r m=>r = .bool q∧MemFits m [hpB F,Ps.pB b v l.length (if q=true then i+1 else i)]:=fun q hq=>by
  unfold Ps.pB at cn ⊢
  refine aA Tryz.func100 rfl (by decide) ?_
  by_cases h1:x.k=1∨x.k=3
  ·rw [show (decide (x.k=1)||decide (x.k=3))=true by simpa using h1,Bool.true_and] at hq
   by_cases h2:x.s=s
   ·rw [decide_eq_true h2] at hq
    subst hq h2
    rcases h1 with h1 | h1
    iterate 2
     ·repeat' first|((try intro K hK);(with_reducible refine gC ?_);refine cS [0,1] cn ?_)|((first|intro A B hA hB|intro K hK|skip);first|((with_reducible refine NIf.yes ?s ?_);(case s=>simp [h1];done);conv=>whnf)|((with_reducible refine NIf.no ?s ?_);(case s=>simp [h1];done);conv=>whnf))|(refine sxZ ?_;(try clear hK K);try clear hA hB A B)|refine sxW ?_ ?_<;>intro _|(intro K hK _;conv=>whnf)
      all_goals exact ⟨rfl,MemFits.pre 2 rfl⟩
   ·rw [decide_eq_false h2] at hq
    subst hq
    rcases h1 with h1 | h1
    iterate 2
     ·repeat' first|((try intro K hK);(with_reducible refine gC ?_);refine cS [0,1] cn ?_)|((first|intro A B hA hB|intro K hK|skip);first|((with_reducible refine NIf.yes ?s ?_);(case s=>simp [h1,h2];done);conv=>whnf)|((with_reducible refine NIf.no ?s ?_);(case s=>simp [h1,h2];done);conv=>whnf))|(refine sxZ ?_;(try clear hK K);try clear hA hB A B)|refine sxW ?_ ?_<;>intro _|(intro K hK _;conv=>whnf)
      all_goals exact ⟨rfl,MemFits.pre 2 rfl⟩
  ·rw [show (decide (x.k=1)||decide (x.k=3))=false by simpa using h1,Bool.false_and] at hq
   subst hq
   have h3:x.k≠1:=fun h=>h1 (.inl h)
   have h4:x.k≠3:=fun h=>h1 (.inr h)
   repeat' first|((try intro K hK);(with_reducible refine gC ?_);refine cS [0,1] cn ?_)|((first|intro A B hA hB|intro K hK|skip);first|((with_reducible refine NIf.yes ?s ?_);(case s=>simp [h3,h4];done);conv=>whnf)|((with_reducible refine NIf.no ?s ?_);(case s=>simp [h3,h4];done);conv=>whnf))|(refine sxZ ?_;(try clear hK K);try clear hA hB A B)|refine sxW ?_ ?_<;>intro _|(intro K hK _;conv=>whnf)
   all_goals exact ⟨rfl,MemFits.pre 2 rfl⟩
 exact NCall.fits (key _ rfl) fun r m' h=>⟨r,_,rfl,h.2,h.1,rfl⟩
theorem kU {i:Nat} {x:Lx.T} (hx:l[i]?=some x) (s:List UInt8):aG Tryz.prog 128 [.ptr 1 ⟨b,0,none⟩ 0,.str s] [hpB F,Ps.pB b v l.length i] (fun r m=>((decide (x.k=1)||decide (x.k=3))&&decide (x.s=s))=true∧r = .tup []∧m=[hpB F,Ps.pB b v l.length (i+1)]) fun ch m=>((decide (x.k=1)||decide (x.k=3))&&decide (x.s=s))=false∧ch=Ps.wrong x.at_∧m=[hpB F,Ps.pB b v l.length i]:=by
 have ci:=cU F v l hv hn b hx s
 have cf:=eK F v l hv hn b hx
 generalize ((decide (x.k=1)||decide (x.k=3))&&decide (x.s=s))=q at *
 unfold Ps.pB at ci cf ⊢
 refine az Tryz.func128 rfl (by decide) ?_
 cases q with
 | true =>
  rw [if_pos rfl] at ci
  repeat' first|(intro K Kp hK hP;(with_reducible refine gCX ?_);(refine aG.of ?_;first|refine cS [0,1] ci ?_))|(refine ai ?_;(try clear hP hK Kp K);try clear hK K)|refine sxW ?_ ?_<;>intro _|(intro K Kp hK hP _;conv=>whnf)|(intro K hK _;conv=>whnf)
  all_goals exact ⟨rfl,rfl,rfl⟩
 | false =>
  rw [if_neg (by decide)] at ci
  repeat' first|(intro K Kp hK hP;(with_reducible refine gCX ?_);first|(refine cX [0,1] cf rfl rfl ?_ ?_;((rintro _ _ ⟨⟩)<;>refine ⟨rfl,_,rfl,?_⟩);rotate_right;((rintro _ _ ⟨rfl,rfl⟩)<;>refine ⟨rfl,?_⟩);all_goals (conv=>whnf))|(refine aG.of ?_;first|refine cS [0,1] ci ?_))|(refine ai ?_;(try clear hP hK Kp K);try clear hK K)|refine sxW ?_ ?_<;>intro _|(intro K Kp hK hP _;conv=>whnf)|(intro K hK _;conv=>whnf)
  all_goals exact ⟨rfl,rfl,rfl⟩
theorem gj {i:Nat} {x:Lx.T} (hx:l[i]?=some x):aG Tryz.prog 130 [.ptr 1 ⟨b,0,none⟩ 0] [hpB F,Ps.pB b v l.length i] (fun r m=>x.k=2∧r = .int .i64 x.n∧m=[hpB F,Ps.pB b v l.length (i+1)]) fun ch m=>x.k≠2∧ch=Ps.wrong x.at_∧m=[hpB F,Ps.pB b v l.length i]:=by
 refine aG.fits (K:=fun r m=>x.k=2∧r = .int .i64 x.n∧MemFits m [hpB F,Ps.pB b v l.length (i+1)]) (Kp:=fun ch m=>x.k≠2∧ch=Ps.wrong x.at_∧MemFits m [hpB F,Ps.pB b v l.length i]) ?_ (fun r m' h=>⟨r,_,rfl,h.2.2,h.1,h.2.1,rfl⟩) fun ch m' h=>⟨_,h.2.2,h.1,h.2.1,rfl⟩
 have hi:=(List.getElem?_eq_some_iff.1 hx).1
 have cn:=fJ F v l hv hn b hx
 have cf:=eK F v l hv hn b hx
 unfold Ps.pB at cn cf ⊢
 refine az Tryz.func130 rfl (by decide) ?_
 by_cases h:x.k=2
 ·repeat' first|(intro K Kp hK hP;(with_reducible refine gCX ?_);(refine aG.of ?_;first|refine cS [0,1] cn ?_))|((first|intro A B hA hB|intro K hK|skip);first|((with_reducible refine NIf.yes ?s ?_);(case s=>simp [h];done);conv=>whnf)|((with_reducible refine NIf.no ?s ?_);(case s=>simp [h];done);conv=>whnf))|(refine ai ?_;(try clear hP hK Kp K);(try clear hK K);try clear hA hB A B)|refine sxW ?_ ?_<;>intro _|(intro K Kp hK hP _;conv=>whnf)|(intro K hK _;conv=>whnf)
  all_goals exact ⟨h,rfl,MemFits.pre 2 rfl⟩
 ·repeat' first|(intro K Kp hK hP;(with_reducible refine gCX ?_);first|(refine cX [0,1] cf rfl rfl ?_ ?_;((rintro _ _ ⟨⟩)<;>refine ⟨rfl,_,rfl,?_⟩);rotate_right;((rintro _ _ ⟨rfl,rfl⟩)<;>refine ⟨rfl,?_⟩);all_goals (conv=>whnf))|(refine aG.of ?_;first|refine cS [0,1] cn ?_))|((first|intro A B hA hB|intro K hK|skip);first|((with_reducible refine NIf.yes ?s ?_);(case s=>simp [h];done);conv=>whnf)|((with_reducible refine NIf.no ?s ?_);(case s=>simp [h];done);conv=>whnf))|(refine ai ?_;(try clear hP hK Kp K);(try clear hK K);try clear hA hB A B)|refine sxW ?_ ?_<;>intro _|(intro K Kp hK hP _;conv=>whnf)|(intro K hK _;conv=>whnf)
  all_goals exact ⟨h,rfl,MemFits.pre 2 rfl⟩
end
namespace Ps
def idx (ws:List (List UInt8)) (s:List UInt8):Int:=match ws.findIdx? (fun w=>decide (w=s)) with
 | none=>-1
 | some k=>k
theorem idx_some {ws:List (List UInt8)} {s:List UInt8} {i:Nat} (hx:ws[i]?=some s) (hno:∀ j,j<i→ws[j]?≠some s):idx ws s=i:=by
 obtain ⟨hi,hs⟩:=List.getElem?_eq_some_iff.1 hx
 have:ws.findIdx? (fun w=>decide (w=s))=some i:=List.findIdx?_eq_some_iff_getElem.2 ⟨hi,by simp [hs],fun j hj=>by
  have:=hno j hj
  rw [List.getElem?_eq_getElem (by omega)] at this
  simpa using this⟩
 unfold idx
 rw [this]
theorem idx_none {ws:List (List UInt8)} {s:List UInt8} (hno:∀ j,j<ws.length→ws[j]?≠some s):idx ws s = -1:=by
 have:ws.findIdx? (fun w=>decide (w=s))=none:=List.findIdx?_eq_none_iff.2 fun x hx=>by
  obtain ⟨j,hj⟩:=List.getElem?_of_mem hx
  have:=hno j (List.getElem?_eq_some_iff.1 hj).1
  rw [hj] at this
  simpa using this
 unfold idx
 rw [this]
abbrev SRow (F:Heap) (v:Value) (ws:List (List UInt8)):Prop:=aH F 1 (fun w us=>us=[Value.string ⟨w.toArray⟩]) v ws
theorem SRow.get {F:Heap} {v:Value} {ws:List (List UInt8)} (h:SRow F v ws) {i:Nat} {w:List UInt8} (hx:ws[i]?=some w):F.c ((addrOf v).add i) (.string ⟨w.toArray⟩):=by
 obtain ⟨us,h1,_,h2⟩:=h.at_ i w hx
 subst h1
 simp only [CellsF,Nat.mul_one] at h2
 exact h2.1
end Ps
theorem ni (F:Heap) (v:Value) (ws:List (List UInt8)) (hv:Ps.SRow F v ws) (hn:ws.length≤1000) (s:List UInt8):NCall Tryz.prog 163 [.hs v ws.length,.str s] [hpB F] fun r m=>r = .int .i64 (Ps.idx ws s)∧m=[hpB F]:=by
 refine NCall.fits (K:=fun r m=>r = .int .i64 (Ps.idx ws s)∧MemFits m [hpB F]) ?_ fun r m' h=>⟨r,_,rfl,h.2,h.1,rfl⟩
 have hok:=hv.ok
 refine aA Tryz.func163 rfl (by decide) ?_
 repeat' first|(refine sxZ ?_;try clear hK K)|refine sxW ?_ ?_<;>intro _|(intro K hK _;conv=>whnf)
 refine aD (α:=Nat) (fun i=>i≤ws.length∧∀ j,j<i→ws[j]?≠some s) (fun i=>[.k,.k,.k,.k,.set (.int .i64 0),.d,.k,.k,.set (.int .i64 i),.d,.d,.d,.d,.d,.d,.d,.d,.d,.d]) (fun _=>[]) (fun i=>ws.length - i) 0 ⟨Nat.zero_le _,fun j h=>absurd h (Nat.not_lt_zero _)⟩ ?_ (MemFits.eq rfl) ?_
 ·exact aC
 (intro i ⟨hi,hno⟩;intro K hK;(conv=>whnf);refine hK _ _ ?_;clear hK K)
 by_cases hlt:i<ws.length
 ·have hx:ws[i]?=some ws[i]:=List.getElem?_eq_getElem hlt
  have c0:=hv.get hx
  have hyes:ws[i]=s→Ps.idx ws s=i:=fun e=>Ps.idx_some (by rw [hx,e]) hno
  have hnx:ws[i]≠s→∀ j,j<i+1→ws[j]?≠some s:=fun e j hj=>by
   rcases Nat.lt_or_ge j i with h | h
   ·exact hno j h
   ·obtain rfl:j=i:=by omega
    rw [hx]
    simpa using e
  generalize ws[i]=w at *
  by_cases hw:w=s
  ·subst hw
   repeat' first|((first|intro A B hA hB|intro K hK|skip);first|((with_reducible refine NIf.yes ?s ?_);(case s=>simp ;done);conv=>whnf)|((with_reducible refine NIf.no ?s ?_);(case s=>simp ;done);conv=>whnf))|(refine aV [] ?_;(try clear hK K);try clear hA hB A B)|refine sxW ?_ ?_<;>intro _|refine aW ?_ ?_|(intro K hK _;conv=>whnf)
   all_goals exact ⟨by rw [hyes rfl],MemFits.pre 1 rfl⟩
  ·have hw2:s≠w:=fun h=>hw h.symm
   repeat' first|((first|intro A B hA hB|intro K hK|skip);first|((with_reducible refine NIf.yes ?s ?_);(case s=>simp [hw2];done);conv=>whnf)|((with_reducible refine NIf.no ?s ?_);(case s=>simp [hw2];done);conv=>whnf))|(refine aV [] ?_;(try clear hK K);try clear hA hB A B)|refine sxW ?_ ?_<;>intro _|refine aW ?_ ?_|(intro K hK _;conv=>whnf)
   all_goals refine aB (i+1) ⟨hlt,hnx hw⟩ (by omega) ?_ (MemFits.eq rfl)
   all_goals exact aC
 ·obtain rfl:i=ws.length:=by omega
  rw [Ps.idx_none hno]
  repeat' first|(refine sxZ ?_;try clear hK K)|refine sxW ?_ ?_<;>intro _|(intro K hK _;conv=>whnf)
  all_goals exact ⟨rfl,MemFits.pre 1 rfl⟩
theorem pC (F:Heap) (b j many:Nat) (hm:many≤6) (s:List UInt8):NCall Tryz.prog 163 [.view j (.slice (some ⟨b,0,none⟩) 6 6) 1 0 many,.str s] [hpB F,⟨⟨b,0,none⟩,[.str [115,114,99],.str [100,115,116],.str [107,105,110,100],.str [116,97,103],.str [112,111,114,116],.str [115,119,105,116,99,104]],.row (.slice (some ⟨b,0,none⟩) 6 6) 9 1 6⟩]
  fun r m=>r = .int .i64 (Ps.idx (Ps.words.take many) s)∧m=[hpB F,⟨⟨b,0,none⟩,[.str [115,114,99],.str [100,115,116],.str [107,105,110,100],.str [116,97,103],.str [112,111,114,116],.str [115,119,105,116,99,104]],.row (.slice (some ⟨b,0,none⟩) 6 6) 9 1 6⟩]:=by
 have hok:SlOk (.slice (some ⟨b,0,none⟩) 6 6) 6:=⟨_,_,rfl,Nat.le_refl _,fun h=>by cases h⟩
 have hcs:denL ([.str [115,114,99],.str [100,115,116],.str [107,105,110,100],.str [116,97,103],.str [112,111,114,116],.str [115,119,105,116,99,104]]:List AV)=Ps.words.flatMap fun w=>[Value.string ⟨w.toArray⟩]:=rfl
 have hrow:=aJ (F:=F) (sz:=1) (enc:=fun w:List UInt8=>[Value.string ⟨w.toArray⟩]) (l:=Ps.words) hok hcs (fun x _=>rfl)
 have hcut:=aH.cut hrow (lo:=0) (hi:=many) (Nat.zero_le _) hm
 rw [List.drop_zero,Nat.sub_zero] at hcut
 have hl:(Ps.words.take many).length=many:=by rw [List.length_take];exact Nat.min_eq_left hm
 have cc:=ni _ _ (Ps.words.take many) hcut (by omega) s
 rw [hl] at cc
 refine NCall.keep cc (by have e:aw (cutSl (.slice (some ⟨b,0,none⟩) 6 6) 1 0 many)=cutSl (.slice (some ⟨b,0,none⟩) 6 6) 1 0 many:=dG _ 1 0 many;simp [denL,AV.den];exact e) (MemFits.freeze (m:=[])) rfl fun u mL ⟨h1,h2⟩=>⟨u,rfl,h1,rfl⟩
theorem iw (F:Heap) (v:Value) (l:List Lx.T) (hv:Ps.Toks F v l) (hn:l.length≤1000) (b:Nat) {i many:Nat} (hm:many≤6) {x:Lx.T} (hx:l[i]?=some x):NCall Tryz.prog 129 [.ptr 1 ⟨b,0,none⟩ 0,.int .i64 many] [hpB F,Ps.pB b v l.length i] fun r m=>r = .int .i64 (if x.k=1 then Ps.idx (Ps.words.take many) x.s else -1)∧m=[hpB F,Ps.pB b v l.length (if 0≤(if x.k=1 then Ps.idx (Ps.words.take many) x.s else -1) then i+1 else i)]:=by
 have hi:=(List.getElem?_eq_some_iff.1 hx).1
 have cn:=fJ F v l hv hn b hx
 have key:∀ q:Int, -1≤q→q≤6→q=(if x.k=1 then Ps.idx (Ps.words.take many) x.s else -1)→NCall Tryz.prog 129 [.ptr 1 ⟨b,0,none⟩ 0,.int .i64 many] [hpB F,Ps.pB b v l.length i] fun r m=>r = .int .i64 q∧MemFits m [hpB F,Ps.pB b v l.length (if 0≤q then i+1 else i)]:=fun q hq1 hq2 hq=>by
  have cx:=fun b' j=>pC F b' j many hm x.s
  unfold Ps.pB at cn ⊢
  refine aA Tryz.func129 rfl (by decide) ?_
  by_cases h1:x.k=1
  ·rw [if_pos h1] at hq
   rw [← hq] at cx
   by_cases h0:0≤q
   ·rw [if_pos h0]
    repeat' first|((try intro K hK);(with_reducible refine gC ?_);first|refine cS [0,1] cn ?_|refine cS [0,3] (cx _ _) ?_)|((first|intro A B hA hB|intro K hK|skip);first|((with_reducible refine NIf.yes ?s ?_);(case s=>simp [h1];done);conv=>whnf)|((with_reducible refine NIf.no ?s ?_);(case s=>simp [h1];done);conv=>whnf))|(refine aV [2] ?_;(try clear hK K);try clear hA hB A B)|refine sxW ?_ ?_<;>intro _|refine aW ?_ ?_|(intro K hK _;conv=>whnf)
    all_goals first | (exfalso;omega) | exact ⟨rfl,MemFits.pre 2 rfl⟩
   ·rw [if_neg h0]
    repeat' first|((try intro K hK);(with_reducible refine gC ?_);first|refine cS [0,1] cn ?_|refine cS [0,3] (cx _ _) ?_)|((first|intro A B hA hB|intro K hK|skip);first|((with_reducible refine NIf.yes ?s ?_);(case s=>simp [h1];done);conv=>whnf)|((with_reducible refine NIf.no ?s ?_);(case s=>simp [h1];done);conv=>whnf))|(refine aV [2] ?_;(try clear hK K);try clear hA hB A B)|refine sxW ?_ ?_<;>intro _|refine aW ?_ ?_|(intro K hK _;conv=>whnf)
    all_goals first | (exfalso;omega) | exact ⟨rfl,MemFits.pre 2 rfl⟩
  ·rw [if_neg h1] at hq
   subst hq
   rw [if_neg (by decide)]
   repeat' first|((try intro K hK);(with_reducible refine gC ?_);refine cS [0,1] cn ?_)|((first|intro A B hA hB|intro K hK|skip);first|((with_reducible refine NIf.yes ?s ?_);(case s=>simp [h1];done);conv=>whnf)|((with_reducible refine NIf.no ?s ?_);(case s=>simp [h1];done);conv=>whnf))|(refine sxZ ?_;(try clear hK K);try clear hA hB A B)|refine sxW ?_ ?_<;>intro _|(intro K hK _;conv=>whnf)
   all_goals exact ⟨rfl,MemFits.pre 2 rfl⟩
 have hb : -1≤(if x.k=1 then Ps.idx (Ps.words.take many) x.s else -1)∧(if x.k=1 then Ps.idx (Ps.words.take many) x.s else -1)≤6:=by
  split
  ·unfold Ps.idx
   split
   ·omega
   ·rename_i k hk
    have:=(List.findIdx?_eq_some_iff_getElem.1 hk).1
    rw [List.length_take] at this
    omega
  ·omega
 exact NCall.fits (key _ hb.1 hb.2 rfl) fun r m' h=>⟨r,_,rfl,h.2,h.1,rfl⟩
end Go.Proofs.YtmehinfgdcmmjaaGreat
namespace Go.Sx
theorem aG.know {P:Program} {f:FuncId} {args:List AV} {m:List Blk} {K K':AV→List Blk→Prop} {Kp Kp':List PanicEntry→List Blk→Prop} (h:aG P f args m K Kp)
  (hk:∀ r m',K r m'→(∃ w,MemOk m' w)→∃ r' m'',r'.den=r.den∧MemFits m' m''∧K' r' m'') (hp:∀ ch m',Kp ch m'→∃ m'',MemFits m' m''∧Kp' ch m''):aG P f args m K' Kp':=by
 rw [cK] at h ⊢
 refine ⟨h.1,fun w hm=>(h.2 w hm).mono fun e w' hq=>?_⟩
 rcases hq with ⟨r,m',h1,rfl,h3,h4,h5⟩ | ⟨r,m',h1,rfl,h3,h4,h5⟩
 ·obtain ⟨r',m'',h6,h7,h8⟩:=hk r m' h1 ⟨w',h3⟩
  exact .inl ⟨r',m'',h8,by rw [h6],(h7 w' h3).1,h4,fun b hb=>h5.1 b ((h7 w' h3).2.1 b hb),fun b hb=>h5.2 b ((h7 w' h3).2.2 b hb)⟩
 ·obtain ⟨m'',h7,h8⟩:=hp r m' h1
  exact .inr ⟨r,m'',h8,rfl,(h7 w' h3).1,h4,fun b hb=>h5.1 b ((h7 w' h3).2.1 b hb),fun b hb=>h5.2 b ((h7 w' h3).2.2 b hb)⟩
end Go.Sx
namespace Go.Proofs.YtmehinfgdcmmjaaGreat
open Go.Sx
set_option maxRecDepth 20000
set_option linter.unusedSimpArgs false
set_option linter.unusedVariables false
set_option maxHeartbeats 4000000
namespace Ps
structure Good (l:List Lx.T):Prop where
 few:l.length≤1000
 end_:∀ i x,l[i]?=some x→x.k≠4→i+1<l.length
theorem tk_b {l:List Lx.T} {i:Nat} {x:Lx.T} (hx:l[i]?=some x):tk (l.map Lx.b) i=Lx.b x:=by
 unfold tk
 rw [List.getElem?_map,hx]
 rfl
theorem is_b {l:List Lx.T} {i:Nat} {x:Lx.T} (hx:l[i]?=some x) (s:List UInt8):is (l.map Lx.b) i s=((decide (x.k=1)||decide (x.k=3))&&decide (x.s=s)):=by
 unfold is
 rw [tk_b hx]
 rfl
theorem Good.next {l:List Lx.T} (h:Good l) {i:Nat} {x:Lx.T} (hx:l[i]?=some x) {s:List UInt8} (hs:is (l.map Lx.b) i s=true):i+1<l.length:=by
 rw [is_b hx] at hs
 refine h.end_ i x hx fun h4=>?_
 rw [h4] at hs
 simp at hs
def Bad {α:Type} (F:Heap) (v:Value) (l:List Lx.T) (b:Nat) (r:R α) (ch:List PanicEntry) (m:List Blk):Prop :=
 ∃ j x G k,r = .bad j∧l[j]?=some x∧ch=wrong x.at_∧F.le G∧m=[hpB G,pB b v l.length k]
def Got26 (F:Heap) (v:Value) (l:List Lx.T) (b:Nat) (i:Nat) (q:R Pd.T) (r:AV) (m:List Blk):Prop :=
 ∃ p j G u,q = .ok p j∧i≤j∧j<l.length∧F.le G∧Pd.Row G u p.l∧r = .agg (Pd.cs p u)∧m=[hpB G,pB b v l.length j]
def P26 (v:Value) (l:List Lx.T) (f:FuncId) (q:R Pd.T) (i:Nat):Prop :=
 ∀ (F:Heap) (b:Nat),Toks F v l→aG Tryz.prog f [.ptr 1 ⟨b,0,none⟩ 0] [hpB F,pB b v l.length i] (fun r m=>Got26 F v l b i q r m) (fun ch m=>Bad F v l b q ch m)
def Got26L (F:Heap) (v:Value) (l:List Lx.T) (b:Nat) (i:Nat) (q:R (List Pd.T)) (r:AV) (m:List Blk):Prop :=
 ∃ xs j G u,q = .ok xs j∧i≤j∧j<l.length∧F.le G∧Pd.Row G u xs∧r = .hs u xs.length∧m=[hpB G,pB b v l.length j]
end Ps
theorem i3 (v:Value) (l:List Lx.T) (hl:Ps.Good l) (s:List UInt8) (g:FuncId) (sp:Nat→Ps.R Pd.T) (i0:Nat) (hi0:i0<l.length) (hg:∀ i,i0≤i→i<l.length→Ps.P26 v l g (sp i) i) (F:Heap) (b:Nat) (hv:Ps.Toks F v l) :
  aG Tryz.prog 161 [.ptr 1 ⟨b,0,none⟩ 0,.str s,.fn g [.ptr 1 ⟨b,0,none⟩ 0] []] [hpB F,Ps.pB b v l.length i0] (fun r m=>Ps.Got26L F v l b i0 (Ps.chain (l.map Lx.b) s sp i0) r m) (fun ch m=>Ps.Bad F v l b (Ps.chain (l.map Lx.b) s sp i0) ch m):=by
 refine aG.know (K:=fun r m=>∃ (ps:List (Pd.T × Value)) (j:Nat) (G:Heap) (w:Value),Ps.chain (l.map Lx.b) s sp i0 = .ok (ps.map (·.1)) j∧i0≤j∧j<l.length∧F.le G∧(∀ p∈ps,Pd.Row G p.2 p.1.l)∧r.den=aw w∧MemFits m [hpB G,⟨addrOf w,Pd.psC ps,.row w 68 4 ps.length⟩,Ps.pB b v l.length j]) (Kp:=fun ch m=>∃ j x G k,Ps.chain (l.map Lx.b) s sp i0 = .bad j∧l[j]?=some x∧ch=Ps.wrong x.at_∧F.le G∧MemFits m [hpB G,Ps.pB b v l.length k]) ?_ (fun r m' hq ⟨w0,hw0⟩=>?_) (fun ch m' hq=>?_)
 rotate_left
 ·obtain ⟨ps,j,G,w,h1,h2,h3,h4,h5,h6,h7⟩:=hq
  have hok:=((h7 w0 hw0).1.row (List.mem_cons_of_mem _ (List.mem_cons_self ..))).1
  have hrow:=aJ (F:=G) (sz:=4) (enc:=Pd.psV) hok (Pd.psC_den ps) (fun x _=>rfl)
  refine ⟨.hs w ps.length,_,h6.symm,h7.trans (MemFits.freeze (m:=[Ps.pB b v l.length j])),ps.map (·.1),j,_,w,h1,h2,h3,h4.trans addF.old,?_,by rw [List.length_map],rfl⟩
  exact Pd.row_of hrow fun p hp=>Pd.Row.mono addF.old (h5 p hp)
 ·obtain ⟨j,x,G,k,h1,h2,h3,h4,h5⟩:=hq
  exact ⟨_,h5,j,x,G,k,h1,h2,h3,h4,rfl⟩
 have c0:=hg i0 (Nat.le_refl _) hi0 F b hv
 have hn:=hl.few
 have hspec:Ps.chain (l.map Lx.b) s sp i0=match sp i0 with
  | .ok x j=>Ps.more (l.map Lx.b) s sp ((l.map Lx.b).length+1 - j) [x] j
  | .bad j=>.bad j:=by unfold Ps.chain;cases sp i0<;>rfl
 have hlen:(l.map Lx.b).length=l.length:=List.length_map ..
 rw [hlen] at hspec
 generalize Ps.chain (l.map Lx.b) s sp i0=res at *
 generalize hq0:sp i0=q0 at *
 refine az Tryz.func161 rfl (by decide) ?_
 unfold Ps.pB at c0 ⊢
 repeat' first|(intro K Kp hK hP;(with_reducible refine gCX ?_);(refine cX [0,1] c0 rfl rfl ?_ ?_;((rintro _ _ ⟨p,j,G,u,h1,h2,h3,h4,h5,rfl,rfl⟩)<;>refine ⟨rfl,_,rfl,?_⟩);rotate_right;((rintro _ _ ⟨j,x,G,k,h1,h2,rfl,h4,rfl⟩)<;>refine ⟨rfl,?_⟩);all_goals (conv=>whnf)))|(refine ai ?_;(try clear hP hK Kp K);try clear hK K)|refine sxW ?_ ?_<;>intro _|(intro K Kp hK hP _;conv=>whnf)|(intro K hK _;conv=>whnf)
 ·refine ⟨j,x,G,k,?_,h2,rfl,h4,MemFits.pre 2 rfl⟩
  rw [hspec,h1]
 rename_i b2
 rw [h1] at hspec
 dsimp only at hspec
 refine jw (α:=Heap × Value × List (Pd.T × Value) × Nat × Nat) (fun (G,w,ps,j,n)=>res=Ps.more (l.map Lx.b) s sp n (ps.map (·.1)) j∧i0≤j∧j<l.length∧l.length - j<n∧F.le G∧ps.length≤j+1∧∀ p∈ps,Pd.Row G p.2 p.1.l)
  (fun (G,w,ps,j,n)=>[.k,.k,.k,.k,.k,.k,.k,.set (.sl 2 w ps.length),.k,.k,.k,.d,.d,.d,.d,.d,.d,.d,.d,.k]) (fun (G,w,ps,j,n)=>[.set (hpB G),.set (Ps.pB b v l.length j),.set ⟨addrOf w,Pd.psC ps,.row w 68 4 ps.length⟩]) (fun (G,w,ps,j,n)=>l.length - j)
  (G,.slice (some ⟨b2,0,none⟩) 1 1,[(p,u)],j,l.length+1 - j) ⟨hspec,h2,h3,by omega,h4,by simp,fun x hx=>by rw [List.mem_singleton.1 hx];exact h5⟩ ?_ ?_ ?_
 ·exact aC
 ·exact MemFits.eq rfl
 (intro ⟨G1,w,ps,j1,n⟩ ⟨hres,hij,hjl,hnl,hle,hpl,hall⟩;intro K hK;(conv=>whnf);refine hK _ _ ?_;clear hK K)
 dsimp only at hres hij hjl hnl hle hpl hall ⊢
 obtain ⟨n,rfl⟩:∃ k,n=k+1:=⟨n - 1,by omega⟩
 have hx1:l[j1]?=some l[j1]:=List.getElem?_eq_getElem hjl
 have ci:=cU G1 v l (Ps.Toks.mono hle hv) hn b hx1 s
 have hisb:=Ps.is_b hx1 s
 have hnext:=hl.next hx1 (s:=s)
 rw [← hisb] at ci
 unfold Ps.more at hres
 have hpc:=Pd.psC_len ps
 generalize Ps.is (l.map Lx.b) j1 s=qi at *
 cases qi with
 | false =>
  rw [if_neg (by decide)] at ci hres
  repeat' first|(intro K Kp hK hP;(with_reducible refine gCX ?_);(refine aG.of ?_;first|refine cS [0,1] ci ?_))|(refine ai ?_;(try clear hP hK Kp K);try clear hK K)|refine sxW ?_ ?_<;>intro _|(intro K Kp hK hP _;conv=>whnf)|(intro K hK _;conv=>whnf)
  all_goals exact ⟨ps,j1,G1,w,hres,hij,hjl,hle,hall,rfl,MemFits.pick [0,2,1] (by decide) rfl⟩
 | true =>
  rw [if_pos rfl] at ci hres
  have c1:=hg (j1+1) (by omega) (hnext rfl) G1 b (Ps.Toks.mono hle hv)
  generalize hq1:sp (j1+1)=q1 at *
  unfold Ps.pB at ci c1
  repeat' first|(intro K Kp hK hP;(with_reducible refine gCX ?_);first|(refine cX [0,1] c1 rfl rfl ?_ ?_;((rintro _ _ ⟨p2,j2,G2,u2,k1,k2,k3,k4,k5,rfl,rfl⟩)<;>refine ⟨rfl,_,rfl,?_⟩);rotate_right;((rintro _ _ ⟨j2,x2,G2,k',k1,k2,rfl,k4,rfl⟩)<;>refine ⟨rfl,?_⟩);all_goals (conv=>whnf))|(refine aG.of ?_;first|refine cS [0,1] ci ?_))|(refine ai ?_;(try clear hP hK Kp K);try clear hK K)|refine sxW ?_ ?_<;>intro _|(intro K Kp hK hP _;conv=>whnf)|(intro K hK _;conv=>whnf)
  ·refine ⟨j2,x2,G2,k',?_,k2,rfl,hle.trans k4,MemFits.pre 2 rfl⟩
   rw [hres,k1]
  ·rename_i b3 w2
   have hpn:=Pd.psC_next ps (p2,u2)
   have hpl2:(ps++[(p2,u2)]).length=ps.length+1:=by rw [List.length_append];rfl
   rw [k1] at hres
   dsimp only at hres
   refine aB (G2,w2,ps++[(p2,u2)],j2,n) ⟨by rw [List.map_append];exact hres,Nat.le_trans hij (Nat.le_trans (Nat.le_succ _) k2),k3,by dsimp only;omega,hle.trans k4,by dsimp only;rw [hpl2];omega,fun x hx=>?_⟩ (by show l.length - j2<l.length - j1;omega) ?_ ?_
   ·rcases List.mem_append.1 hx with hx | hx
    ·exact Pd.Row.mono k4 (hall x hx)
    ·rw [List.mem_singleton.1 hx];exact k5
   ·dsimp only
    rw [hpl2]
    exact aC
   ·dsimp only
    rw [hpn,hpl2]
    exact MemFits.pre 3 rfl
theorem Ps.wrap_not {α:Type} {f:List α→α} {xs:List α} {j:Nat} (h:¬xs.length=1):Ps.wrap f (.ok xs j) = .ok (f xs) j:=by
 match xs,h with
 | [],_=>rfl
 | _::_::_,_=>rfl
theorem iq (v:Value) (l:List Lx.T) (hl:Ps.Good l) (sp:Nat→Ps.R Pd.T) (i0:Nat) (hi0:i0<l.length) (hg:∀ i,i0≤i→i<l.length→Ps.P26 v l 186 (sp i) i):Ps.P26 v l 162 (Ps.group (l.map Lx.b) sp i0) i0:=by
 intro F b hv
 refine aG.fits (K:=fun r m=>∃ p j G u,Ps.group (l.map Lx.b) sp i0 = .ok p j∧i0≤j∧j<l.length∧F.le G∧Pd.Row G u p.l∧r = .agg (Pd.cs p u)∧MemFits m [hpB G,Ps.pB b v l.length j]) (Kp:=fun ch m=>∃ j x G k,Ps.group (l.map Lx.b) sp i0 = .bad j∧l[j]?=some x∧ch=Ps.wrong x.at_∧F.le G∧MemFits m [hpB G,Ps.pB b v l.length k]) ?_ (fun r m' ⟨p,j,G,u,h1,h2,h3,h4,h5,h6,h7⟩=>⟨r,_,rfl,h7,p,j,G,u,h1,h2,h3,h4,h5,h6,rfl⟩) (fun ch m' ⟨j,x,G,k,h1,h2,h3,h4,h5⟩=>⟨_,h5,j,x,G,k,h1,h2,h3,h4,rfl⟩)
 have cc:=i3 v l hl Ps.wAnd 186 sp i0 hi0 hg F b hv
 have hn:=hl.few
 unfold Ps.group
 generalize Ps.chain (l.map Lx.b) Ps.wAnd sp i0=q at *
 refine az Tryz.func162 rfl (by decide) ?_
 unfold Ps.pB at cc ⊢
 unfold Ps.wAnd at cc
 repeat' first|(intro K Kp hK hP;(with_reducible refine gCX ?_);(refine cX [0,1] cc rfl rfl ?_ ?_;((rintro _ _ ⟨xs,j,G,u,h1,h2,h3,h4,h5,rfl,rfl⟩)<;>refine ⟨rfl,_,rfl,?_⟩);rotate_right;((rintro _ _ ⟨j,x,G,k,h1,h2,rfl,h4,rfl⟩)<;>refine ⟨rfl,?_⟩);all_goals (conv=>whnf)))|(refine ai ?_;(try clear hP hK Kp K);try clear hK K)|refine sxW ?_ ?_<;>intro _|(intro K Kp hK hP _;conv=>whnf)|(intro K hK _;conv=>whnf)
 ·refine ⟨j,x,G,k,?_,h2,rfl,h4,MemFits.pre 2 rfl⟩
  rw [h1]
  rfl
 have huk:=h5.ok
 subst h1
 by_cases hone:xs.length=1
 ·obtain ⟨y,rfl⟩:=List.length_eq_one_iff.1 hone
  obtain ⟨A,cap,hr,d0,d1,d2,d3⟩:=h5.get (i:=0) (x:=y) rfl
  rw [Nat.zero_mul] at d0 d1 d2 d3
  repeat' first|((first|intro A B hA hB|intro K hK|skip);first|((with_reducible refine NIf.yes ?s ?_);(case s=>simp ;done);conv=>whnf)|((with_reducible refine NIf.no ?s ?_);(case s=>simp ;done);conv=>whnf))|(refine ai ?_;(try clear hP hK Kp K);(try clear hK K);try clear hA hB A B)|refine sxW ?_ ?_<;>intro _|(intro K Kp hK hP _;conv=>whnf)|(intro K hK _;conv=>whnf)
  all_goals exact ⟨y,j,G,_,rfl,h2,h3,h4,hr,rfl,MemFits.pre 2 rfl⟩
 ·have hw:=Ps.wrap_not (f:=fun xs=>Pd.T.mk 5 0 0 xs) (j:=j) hone
  have hone2:¬(xs.length:Int)=1:=by omega
  repeat' first|((first|intro A B hA hB|intro K hK|skip);first|((with_reducible refine NIf.yes ?s ?_);(case s=>simp [hone2];done);conv=>whnf)|((with_reducible refine NIf.no ?s ?_);(case s=>simp [hone2];done);conv=>whnf))|(refine ai ?_;(try clear hP hK Kp K);(try clear hK K);try clear hA hB A B)|refine sxW ?_ ?_<;>intro _|(intro K Kp hK hP _;conv=>whnf)|(intro K hK _;conv=>whnf)
  all_goals exact ⟨.mk 5 0 0 xs,j,G,u,hw,h2,h3,h4,h5,rfl,MemFits.pre 2 rfl⟩
theorem kw (v:Value) (l:List Lx.T) (hl:Ps.Good l) (sp:Nat→Ps.R Pd.T) (i0:Nat) (hi0:i0<l.length) (hg:∀ i,i0≤i→i<l.length→Ps.P26 v l 162 (Ps.group (l.map Lx.b) sp i) i):Ps.P26 v l 127 (Ps.cond (l.map Lx.b) sp i0) i0:=by
 intro F b hv
 refine aG.fits (K:=fun r m=>∃ p j G u,Ps.cond (l.map Lx.b) sp i0 = .ok p j∧i0≤j∧j<l.length∧F.le G∧Pd.Row G u p.l∧r = .agg (Pd.cs p u)∧MemFits m [hpB G,Ps.pB b v l.length j]) (Kp:=fun ch m=>∃ j x G k,Ps.cond (l.map Lx.b) sp i0 = .bad j∧l[j]?=some x∧ch=Ps.wrong x.at_∧F.le G∧MemFits m [hpB G,Ps.pB b v l.length k]) ?_ (fun r m' ⟨p,j,G,u,h1,h2,h3,h4,h5,h6,h7⟩=>⟨r,_,rfl,h7,p,j,G,u,h1,h2,h3,h4,h5,h6,rfl⟩) (fun ch m' ⟨j,x,G,k,h1,h2,h3,h4,h5⟩=>⟨_,h5,j,x,G,k,h1,h2,h3,h4,rfl⟩)
 have cc:=i3 v l hl Ps.wOr 162 (Ps.group (l.map Lx.b) sp) i0 hi0 hg F b hv
 have hn:=hl.few
 unfold Ps.cond
 generalize Ps.chain (l.map Lx.b) Ps.wOr (Ps.group (l.map Lx.b) sp) i0=q at *
 refine az Tryz.func127 rfl (by decide) ?_
 unfold Ps.pB at cc ⊢
 unfold Ps.wOr at cc
 repeat' first|(intro K Kp hK hP;(with_reducible refine gCX ?_);(refine cX [0,1] cc rfl rfl ?_ ?_;((rintro _ _ ⟨xs,j,G,u,h1,h2,h3,h4,h5,rfl,rfl⟩)<;>refine ⟨rfl,_,rfl,?_⟩);rotate_right;((rintro _ _ ⟨j,x,G,k,h1,h2,rfl,h4,rfl⟩)<;>refine ⟨rfl,?_⟩);all_goals (conv=>whnf)))|(refine ai ?_;(try clear hP hK Kp K);try clear hK K)|refine sxW ?_ ?_<;>intro _|(intro K Kp hK hP _;conv=>whnf)|(intro K hK _;conv=>whnf)
 ·refine ⟨j,x,G,k,?_,h2,rfl,h4,MemFits.pre 2 rfl⟩
  rw [h1]
  rfl
 have huk:=h5.ok
 subst h1
 by_cases hone:xs.length=1
 ·obtain ⟨y,rfl⟩:=List.length_eq_one_iff.1 hone
  obtain ⟨A,cap,hr,d0,d1,d2,d3⟩:=h5.get (i:=0) (x:=y) rfl
  rw [Nat.zero_mul] at d0 d1 d2 d3
  repeat' first|((first|intro A B hA hB|intro K hK|skip);first|((with_reducible refine NIf.yes ?s ?_);(case s=>simp ;done);conv=>whnf)|((with_reducible refine NIf.no ?s ?_);(case s=>simp ;done);conv=>whnf))|(refine ai ?_;(try clear hP hK Kp K);(try clear hK K);try clear hA hB A B)|refine sxW ?_ ?_<;>intro _|(intro K Kp hK hP _;conv=>whnf)|(intro K hK _;conv=>whnf)
  all_goals exact ⟨y,j,G,_,rfl,h2,h3,h4,hr,rfl,MemFits.pre 2 rfl⟩
 ·have hw:=Ps.wrap_not (f:=fun xs=>Pd.T.mk 6 0 0 xs) (j:=j) hone
  have hone2:¬(xs.length:Int)=1:=by omega
  repeat' first|((first|intro A B hA hB|intro K hK|skip);first|((with_reducible refine NIf.yes ?s ?_);(case s=>simp [hone2];done);conv=>whnf)|((with_reducible refine NIf.no ?s ?_);(case s=>simp [hone2];done);conv=>whnf))|(refine ai ?_;(try clear hP hK Kp K);(try clear hK K);try clear hA hB A B)|refine sxW ?_ ?_<;>intro _|(intro K Kp hK hP _;conv=>whnf)|(intro K hK _;conv=>whnf)
  all_goals exact ⟨.mk 6 0 0 xs,j,G,u,hw,h2,h3,h4,h5,rfl,MemFits.pre 2 rfl⟩
end Go.Proofs.YtmehinfgdcmmjaaGreat
