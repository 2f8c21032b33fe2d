/- A part of the proof. -/
import Derived.Test.YtmehinfgdcmmjaaGreatDoorTJ4
import Derived.Test.YtmehinfgdcmmjaaGreatDoorTJ13
import Derived.Test.YtmehinfgdcmmjaaGreatDoorTJ2
import Derived.Test.YtmehinfgdcmmjaaGreatDoorTJ1
import Derived.Test.YtmehinfgdcmmjaaGreatDoorTJ3
namespace Go.Proofs.YtmehinfgdcmmjaaGreatDoor
open Go.Sx
set_option maxRecDepth 20000
set_option linter.unusedSimpArgs false
set_option linter.unusedVariables false
set_option maxHeartbeats 4000000
set_option linter.unusedSectionVars false
namespace Ps
abbrev Toks (F:Heap) (v:Value) (l:List Lx.T):Prop:=aI F 4 (fun x vs=>vs=Lx.tokV x) v l
theorem Toks.mono {F G:Heap} (h:F.le G) {v:Value} {l:List Lx.T} (hv:Toks F v l):Toks G v l:=aI.mono h (fun _ _ h=>h) hv
theorem Toks.get {F:Heap} {v:Value} {l:List Lx.T} (hv:Toks F v l) {i:Nat} {x:Lx.T} (hx:l[i]?=some x):F.c ((addrOf v).add (i*4)) (.int .i64 x.k)∧F.c ((addrOf v).add (i*4+1)) (.int .i64 x.n)∧F.c ((addrOf v).add (i*4+2)) (.string ⟨x.s.toArray⟩)∧F.c ((addrOf v).add (i*4+3)) (.int .i64 x.at_):=by
 obtain ⟨us,h1,_,h2⟩:=hv.at_ i x hx
 subst h1
 obtain ⟨c0,c1,c2,c3,_⟩:=h2
 exact ⟨c0,c1,c2,c3⟩
def pB (b:Nat) (v:Value) (n i:Nat):Blk:=⟨⟨b,0,none⟩,[.hs v n,.int .i64 i],.var 187⟩
def wrong (at_:Int):List PanicEntry:=[{ v:=.iface 184 (.int .i64 at_),recovered:=false }]
end Ps
section
variable (F:Heap) (v:Value) (l:List Lx.T) (hv:Ps.Toks F v l) (hn:l.length≤1000) (b:Nat)
include hv hn
theorem ec {i:Nat} {x:Lx.T} (hx:l[i]?=some x):Qz Tryz.prog 127 [.ptr 1 ⟨b,0,none⟩ 0] [hpB F,Ps.pB b v l.length i] fun r m=>r = .agg [.int .i64 x.k,.int .i64 x.n,.str x.s,.int .i64 x.at_]∧m=[hpB F,Ps.pB b v l.length i]:=by
 refine Qz.fits (K:=fun r m=>r = .agg [.int .i64 x.k,.int .i64 x.n,.str x.s,.int .i64 x.at_]∧Qw m [hpB F,Ps.pB b v l.length i]) ?_ fun r m' h=>⟨r,_,rfl,h.2,h.1,rfl⟩
 have hok:=hv.ok
 have hi:=(List.getElem?_eq_some_iff.1 hx).1
 obtain ⟨c0,c1,c2,c3⟩:=hv.get hx
 unfold Ps.pB
 refine aB Tryz.func127 rfl (by decide) ?_
 repeat' first|(refine aJ [2] ?_;try clear hK K)|refine sxW ?_ ?_<;>intro _|refine aK ?_ ?_|(intro K hK _;conv=>whnf)
 all_goals exact ⟨rfl,Qw.pre 2 rfl⟩
theorem di {i:Nat} {x:Lx.T} (hx:l[i]?=some x):aH Tryz.prog 128 [.ptr 1 ⟨b,0,none⟩ 0] [hpB F,Ps.pB b v l.length i] (fun _ _=>False) fun ch m=>ch=Ps.wrong x.at_∧m=[hpB F,Ps.pB b v l.length i]:=by
 have cn:=ec F v l hv hn b hx
 unfold Ps.pB at cn ⊢
 refine ax Tryz.func128 rfl (by decide) ?_
 repeat' first|(intro K Kp hK hP;(with_reducible refine gCX ?_);(refine aH.of ?_;first|refine cS [0,1] cn ?_))|(refine ah ?_;(try clear hP hK Kp K);try clear hK K)|refine sxW ?_ ?_<;>intro _|(intro K Kp hK hP _;conv=>whnf)|(intro K hK _;conv=>whnf)
 all_goals exact ⟨rfl,rfl⟩
theorem bu {i:Nat} {x:Lx.T} (hx:l[i]?=some x) (s:List UInt8):Qz Tryz.prog 172 [.ptr 1 ⟨b,0,none⟩ 0,.str s] [hpB F,Ps.pB b v l.length i] fun r m=>r = .bool ((decide (x.k=1)||decide (x.k=3))&&decide (x.s=s))∧m=[hpB F,Ps.pB b v l.length (if ((decide (x.k=1)||decide (x.k=3))&&decide (x.s=s))=true then i+1 else i)]:=by
 have hi:=(List.getElem?_eq_some_iff.1 hx).1
 have cn:=ec F v l hv hn b hx
 have key:∀ q:Bool,q=((decide (x.k=1)||decide (x.k=3))&&decide (x.s=s))→Qz Tryz.prog 172 [.ptr 1 ⟨b,0,none⟩ 0,.str s] [hpB F,Ps.pB b v l.length i] fun r m=>r = .bool q∧Qw m [hpB F,Ps.pB b v l.length (if q=true then i+1 else i)]:=fun q hq=>by
  unfold Ps.pB at cn ⊢
  refine aB Tryz.func172 rfl (by decide) ?_
  by_cases h1:x.k=1∨x.k=3
  ·rw [show (decide (x.k=1)||decide (x.k=3))=true by simpa using h1,Bool.true_and] at hq
   by_cases h2:x.s=s
   ·rw [decide_eq_true h2] at hq
    subst hq h2
    rcases h1 with h1 | h1
    iterate 2
     ·repeat' first|((try intro K hK);(with_reducible refine gC ?_);refine cS [0,1] cn ?_)|((first|intro A B hA hB|intro K hK|skip);first|((with_reducible refine NIf.yes ?s ?_);(case s=>simp [h1];done);conv=>whnf)|((with_reducible refine NIf.no ?s ?_);(case s=>simp [h1];done);conv=>whnf))|(refine sxZ ?_;(try clear hK K);try clear hA hB A B)|refine sxW ?_ ?_<;>intro _|(intro K hK _;conv=>whnf)
      all_goals exact ⟨rfl,Qw.pre 2 rfl⟩
   ·rw [decide_eq_false h2] at hq
    subst hq
    rcases h1 with h1 | h1
    iterate 2
     ·repeat' first|((try intro K hK);(with_reducible refine gC ?_);refine cS [0,1] cn ?_)|((first|intro A B hA hB|intro K hK|skip);first|((with_reducible refine NIf.yes ?s ?_);(case s=>simp [h1,h2];done);conv=>whnf)|((with_reducible refine NIf.no ?s ?_);(case s=>simp [h1,h2];done);conv=>whnf))|(refine sxZ ?_;(try clear hK K);try clear hA hB A B)|refine sxW ?_ ?_<;>intro _|(intro K hK _;conv=>whnf)
      all_goals exact ⟨rfl,Qw.pre 2 rfl⟩
  ·rw [show (decide (x.k=1)||decide (x.k=3))=false by simpa using h1,Bool.false_and] at hq
   subst hq
   have h3:x.k≠1:=fun h=>h1 (.inl h)
   have h4:x.k≠3:=fun h=>h1 (.inr h)
   repeat' first|((try intro K hK);(with_reducible refine gC ?_);refine cS [0,1] cn ?_)|((first|intro A B hA hB|intro K hK|skip);first|((with_reducible refine NIf.yes ?s ?_);(case s=>simp [h3,h4];done);conv=>whnf)|((with_reducible refine NIf.no ?s ?_);(case s=>simp [h3,h4];done);conv=>whnf))|(refine sxZ ?_;(try clear hK K);try clear hA hB A B)|refine sxW ?_ ?_<;>intro _|(intro K hK _;conv=>whnf)
   all_goals exact ⟨rfl,Qw.pre 2 rfl⟩
 exact Qz.fits (key _ rfl) fun r m' h=>⟨r,_,rfl,h.2,h.1,rfl⟩
theorem kA {i:Nat} {x:Lx.T} (hx:l[i]?=some x) (s:List UInt8):aH Tryz.prog 217 [.ptr 1 ⟨b,0,none⟩ 0,.str s] [hpB F,Ps.pB b v l.length i] (fun r m=>((decide (x.k=1)||decide (x.k=3))&&decide (x.s=s))=true∧r = .tup []∧m=[hpB F,Ps.pB b v l.length (i+1)]) fun ch m=>((decide (x.k=1)||decide (x.k=3))&&decide (x.s=s))=false∧ch=Ps.wrong x.at_∧m=[hpB F,Ps.pB b v l.length i]:=by
 have ci:=bu F v l hv hn b hx s
 have cf:=di F v l hv hn b hx
 generalize ((decide (x.k=1)||decide (x.k=3))&&decide (x.s=s))=q at *
 unfold Ps.pB at ci cf ⊢
 refine ax Tryz.func217 rfl (by decide) ?_
 cases q with
 | true =>
  rw [if_pos rfl] at ci
  repeat' first|(intro K Kp hK hP;(with_reducible refine gCX ?_);(refine aH.of ?_;first|refine cS [0,1] ci ?_))|(refine ah ?_;(try clear hP hK Kp K);try clear hK K)|refine sxW ?_ ?_<;>intro _|(intro K Kp hK hP _;conv=>whnf)|(intro K hK _;conv=>whnf)
  all_goals exact ⟨rfl,rfl,rfl⟩
 | false =>
  rw [if_neg (by decide)] at ci
  repeat' first|(intro K Kp hK hP;(with_reducible refine gCX ?_);first|(refine cX [0,1] cf rfl rfl ?_ ?_;((rintro _ _ ⟨⟩)<;>refine ⟨rfl,_,rfl,?_⟩);rotate_right;((rintro _ _ ⟨rfl,rfl⟩)<;>refine ⟨rfl,?_⟩);all_goals (conv=>whnf))|(refine aH.of ?_;first|refine cS [0,1] ci ?_))|(refine ah ?_;(try clear hP hK Kp K);try clear hK K)|refine sxW ?_ ?_<;>intro _|(intro K Kp hK hP _;conv=>whnf)|(intro K hK _;conv=>whnf)
  all_goals exact ⟨rfl,rfl,rfl⟩
theorem gA {i:Nat} {x:Lx.T} (hx:l[i]?=some x):aH Tryz.prog 219 [.ptr 1 ⟨b,0,none⟩ 0] [hpB F,Ps.pB b v l.length i] (fun r m=>x.k=2∧r = .int .i64 x.n∧m=[hpB F,Ps.pB b v l.length (i+1)]) fun ch m=>x.k≠2∧ch=Ps.wrong x.at_∧m=[hpB F,Ps.pB b v l.length i]:=by
 refine aH.fits (K:=fun r m=>x.k=2∧r = .int .i64 x.n∧Qw m [hpB F,Ps.pB b v l.length (i+1)]) (Kp:=fun ch m=>x.k≠2∧ch=Ps.wrong x.at_∧Qw m [hpB F,Ps.pB b v l.length i]) ?_ (fun r m' h=>⟨r,_,rfl,h.2.2,h.1,h.2.1,rfl⟩) fun ch m' h=>⟨_,h.2.2,h.1,h.2.1,rfl⟩
 have hi:=(List.getElem?_eq_some_iff.1 hx).1
 have cn:=ec F v l hv hn b hx
 have cf:=di F v l hv hn b hx
 unfold Ps.pB at cn cf ⊢
 refine ax Tryz.func219 rfl (by decide) ?_
 by_cases h:x.k=2
 ·repeat' first|(intro K Kp hK hP;(with_reducible refine gCX ?_);(refine aH.of ?_;first|refine cS [0,1] cn ?_))|((first|intro A B hA hB|intro K hK|skip);first|((with_reducible refine NIf.yes ?s ?_);(case s=>simp [h];done);conv=>whnf)|((with_reducible refine NIf.no ?s ?_);(case s=>simp [h];done);conv=>whnf))|(refine ah ?_;(try clear hP hK Kp K);(try clear hK K);try clear hA hB A B)|refine sxW ?_ ?_<;>intro _|(intro K Kp hK hP _;conv=>whnf)|(intro K hK _;conv=>whnf)
  all_goals exact ⟨h,rfl,Qw.pre 2 rfl⟩
 ·repeat' first|(intro K Kp hK hP;(with_reducible refine gCX ?_);first|(refine cX [0,1] cf rfl rfl ?_ ?_;((rintro _ _ ⟨⟩)<;>refine ⟨rfl,_,rfl,?_⟩);rotate_right;((rintro _ _ ⟨rfl,rfl⟩)<;>refine ⟨rfl,?_⟩);all_goals (conv=>whnf))|(refine aH.of ?_;first|refine cS [0,1] cn ?_))|((first|intro A B hA hB|intro K hK|skip);first|((with_reducible refine NIf.yes ?s ?_);(case s=>simp [h];done);conv=>whnf)|((with_reducible refine NIf.no ?s ?_);(case s=>simp [h];done);conv=>whnf))|(refine ah ?_;(try clear hP hK Kp K);(try clear hK K);try clear hA hB A B)|refine sxW ?_ ?_<;>intro _|(intro K Kp hK hP _;conv=>whnf)|(intro K hK _;conv=>whnf)
  all_goals exact ⟨h,rfl,Qw.pre 2 rfl⟩
end
namespace Ps
def idx (ws:List (List UInt8)) (s:List UInt8):Int:=match ws.findIdx? (fun w=>decide (w=s)) with
 | none=>-1
 | some k=>k
theorem idx_some {ws:List (List UInt8)} {s:List UInt8} {i:Nat} (hx:ws[i]?=some s) (hno:∀ j,j<i→ws[j]?≠some s):idx ws s=i:=by
 obtain ⟨hi,hs⟩:=List.getElem?_eq_some_iff.1 hx
 have:ws.findIdx? (fun w=>decide (w=s))=some i:=List.findIdx?_eq_some_iff_getElem.2 ⟨hi,by simp [hs],fun j hj=>by
  have:=hno j hj
  rw [List.getElem?_eq_getElem (by omega)] at this
  simpa using this⟩
 unfold idx
 rw [this]
theorem idx_none {ws:List (List UInt8)} {s:List UInt8} (hno:∀ j,j<ws.length→ws[j]?≠some s):idx ws s = -1:=by
 have:ws.findIdx? (fun w=>decide (w=s))=none:=List.findIdx?_eq_none_iff.2 fun x hx=>by
  obtain ⟨j,hj⟩:=List.getElem?_of_mem hx
  have:=hno j (List.getElem?_eq_some_iff.1 hj).1
  rw [hj] at this
  simpa using this
 unfold idx
 rw [this]
abbrev SRow (F:Heap) (v:Value) (ws:List (List UInt8)):Prop:=aI F 1 (fun w us=>us=[Value.string ⟨w.toArray⟩]) v ws
theorem SRow.get {F:Heap} {v:Value} {ws:List (List UInt8)} (h:SRow F v ws) {i:Nat} {w:List UInt8} (hx:ws[i]?=some w):F.c ((addrOf v).add i) (.string ⟨w.toArray⟩):=by
 obtain ⟨us,h1,_,h2⟩:=h.at_ i w hx
 subst h1
 simp only [CellsF,Nat.mul_one] at h2
 exact h2.1
end Ps
theorem nQ (F:Heap) (v:Value) (ws:List (List UInt8)) (hv:Ps.SRow F v ws) (hn:ws.length≤1000) (s:List UInt8):Qz Tryz.prog 238 [.hs v ws.length,.str s] [hpB F] fun r m=>r = .int .i64 (Ps.idx ws s)∧m=[hpB F]:=by
 refine Qz.fits (K:=fun r m=>r = .int .i64 (Ps.idx ws s)∧Qw m [hpB F]) ?_ fun r m' h=>⟨r,_,rfl,h.2,h.1,rfl⟩
 have hok:=hv.ok
 refine aB Tryz.func238 rfl (by decide) ?_
 repeat' first|(refine sxZ ?_;try clear hK K)|refine sxW ?_ ?_<;>intro _|(intro K hK _;conv=>whnf)
 refine aE (α:=Nat) (fun i=>i≤ws.length∧∀ j,j<i→ws[j]?≠some s) (fun i=>[.k,.k,.k,.k,.set (.int .i64 0),.d,.k,.k,.set (.int .i64 i),.d,.d,.d,.d,.d,.d,.d,.d,.d,.d]) (fun _=>[]) (fun i=>ws.length - i) 0 ⟨Nat.zero_le _,fun j h=>absurd h (Nat.not_lt_zero _)⟩ ?_ (Qw.eq rfl) ?_
 ·exact aD
 (intro i ⟨hi,hno⟩;intro K hK;(conv=>whnf);refine hK _ _ ?_;clear hK K)
 by_cases hlt:i<ws.length
 ·have hx:ws[i]?=some ws[i]:=List.getElem?_eq_getElem hlt
  have c0:=hv.get hx
  have hyes:ws[i]=s→Ps.idx ws s=i:=fun e=>Ps.idx_some (by rw [hx,e]) hno
  have hnx:ws[i]≠s→∀ j,j<i+1→ws[j]?≠some s:=fun e j hj=>by
   rcases Nat.lt_or_ge j i with h | h
   ·exact hno j h
   ·obtain rfl:j=i:=by omega
    rw [hx]
    simpa using e
  generalize ws[i]=w at *
  by_cases hw:w=s
  ·subst hw
   repeat' first|((first|intro A B hA hB|intro K hK|skip);first|((with_reducible refine NIf.yes ?s ?_);(case s=>simp ;done);conv=>whnf)|((with_reducible refine NIf.no ?s ?_);(case s=>simp ;done);conv=>whnf))|(refine aJ [] ?_;(try clear hK K);try clear hA hB A B)|refine sxW ?_ ?_<;>intro _|refine aK ?_ ?_|(intro K hK _;conv=>whnf)
   all_goals exact ⟨by rw [hyes rfl],Qw.pre 1 rfl⟩
  ·have hw2:s≠w:=fun h=>hw h.symm
   repeat' first|((first|intro A B hA hB|intro K hK|skip);first|((with_reducible refine NIf.yes ?s ?_);(case s=>simp [hw2];done);conv=>whnf)|((with_reducible refine NIf.no ?s ?_);(case s=>simp [hw2];done);conv=>whnf))|(refine aJ [] ?_;(try clear hK K);try clear hA hB A B)|refine sxW ?_ ?_<;>intro _|refine aK ?_ ?_|(intro K hK _;conv=>whnf)
   all_goals refine aC (i+1) ⟨hlt,hnx hw⟩ (by omega) ?_ (Qw.eq rfl)
   all_goals exact aD
 ·obtain rfl:i=ws.length:=by omega
  rw [Ps.idx_none hno]
  repeat' first|(refine sxZ ?_;try clear hK K)|refine sxW ?_ ?_<;>intro _|(intro K hK _;conv=>whnf)
  all_goals exact ⟨rfl,Qw.pre 1 rfl⟩
theorem oq (F:Heap) (b j many:Nat) (hm:many≤6) (s:List UInt8):Qz Tryz.prog 238 [.view j (.slice (some ⟨b,0,none⟩) 6 6) 1 0 many,.str s] [hpB F,⟨⟨b,0,none⟩,[.str [115,114,99],.str [100,115,116],.str [107,105,110,100],.str [116,97,103],.str [112,111,114,116],.str [115,119,105,116,99,104]],.row (.slice (some ⟨b,0,none⟩) 6 6) 9 1 6⟩]
  fun r m=>r = .int .i64 (Ps.idx (Ps.words.take many) s)∧m=[hpB F,⟨⟨b,0,none⟩,[.str [115,114,99],.str [100,115,116],.str [107,105,110,100],.str [116,97,103],.str [112,111,114,116],.str [115,119,105,116,99,104]],.row (.slice (some ⟨b,0,none⟩) 6 6) 9 1 6⟩]:=by
 have hok:SlOk (.slice (some ⟨b,0,none⟩) 6 6) 6:=⟨_,_,rfl,Nat.le_refl _,fun h=>by cases h⟩
 have hcs:denL ([.str [115,114,99],.str [100,115,116],.str [107,105,110,100],.str [116,97,103],.str [112,111,114,116],.str [115,119,105,116,99,104]]:List AV)=Ps.words.flatMap fun w=>[Value.string ⟨w.toArray⟩]:=rfl
 have hrow:=aM (F:=F) (sz:=1) (enc:=fun w:List UInt8=>[Value.string ⟨w.toArray⟩]) (l:=Ps.words) hok hcs (fun x _=>rfl)
 have hcut:=aI.cut hrow (lo:=0) (hi:=many) (Nat.zero_le _) hm
 rw [List.drop_zero,Nat.sub_zero] at hcut
 have hl:(Ps.words.take many).length=many:=by rw [List.length_take];exact Nat.min_eq_left hm
 have cc:=nQ _ _ (Ps.words.take many) hcut (by omega) s
 rw [hl] at cc
 refine Qz.keep cc (by have e:aw (cutSl (.slice (some ⟨b,0,none⟩) 6 6) 1 0 many)=cutSl (.slice (some ⟨b,0,none⟩) 6 6) 1 0 many:=cJ _ 1 0 many;simp [denL,AV.den];exact e) (Qw.freeze (m:=[])) rfl fun u mL ⟨h1,h2⟩=>⟨u,rfl,h1,rfl⟩
theorem iR (F:Heap) (v:Value) (l:List Lx.T) (hv:Ps.Toks F v l) (hn:l.length≤1000) (b:Nat) {i many:Nat} (hm:many≤6) {x:Lx.T} (hx:l[i]?=some x):Qz Tryz.prog 218 [.ptr 1 ⟨b,0,none⟩ 0,.int .i64 many] [hpB F,Ps.pB b v l.length i] fun r m=>r = .int .i64 (if x.k=1 then Ps.idx (Ps.words.take many) x.s else -1)∧m=[hpB F,Ps.pB b v l.length (if 0≤(if x.k=1 then Ps.idx (Ps.words.take many) x.s else -1) then i+1 else i)]:=by
 have hi:=(List.getElem?_eq_some_iff.1 hx).1
 have cn:=ec F v l hv hn b hx
 have key:∀ q:Int, -1≤q→q≤6→q=(if x.k=1 then Ps.idx (Ps.words.take many) x.s else -1)→Qz Tryz.prog 218 [.ptr 1 ⟨b,0,none⟩ 0,.int .i64 many] [hpB F,Ps.pB b v l.length i] fun r m=>r = .int .i64 q∧Qw m [hpB F,Ps.pB b v l.length (if 0≤q then i+1 else i)]:=fun q hq1 hq2 hq=>by
  have cx:=fun b' j=>oq F b' j many hm x.s
  unfold Ps.pB at cn ⊢
  refine aB Tryz.func218 rfl (by decide) ?_
  by_cases h1:x.k=1
  ·rw [if_pos h1] at hq
   rw [← hq] at cx
   by_cases h0:0≤q
   ·rw [if_pos h0]
    repeat' first|((try intro K hK);(with_reducible refine gC ?_);first|refine cS [0,1] cn ?_|refine cS [0,3] (cx _ _) ?_)|((first|intro A B hA hB|intro K hK|skip);first|((with_reducible refine NIf.yes ?s ?_);(case s=>simp [h1];done);conv=>whnf)|((with_reducible refine NIf.no ?s ?_);(case s=>simp [h1];done);conv=>whnf))|(refine aJ [2] ?_;(try clear hK K);try clear hA hB A B)|refine sxW ?_ ?_<;>intro _|refine aK ?_ ?_|(intro K hK _;conv=>whnf)
    all_goals first | (exfalso;omega) | exact ⟨rfl,Qw.pre 2 rfl⟩
   ·rw [if_neg h0]
    repeat' first|((try intro K hK);(with_reducible refine gC ?_);first|refine cS [0,1] cn ?_|refine cS [0,3] (cx _ _) ?_)|((first|intro A B hA hB|intro K hK|skip);first|((with_reducible refine NIf.yes ?s ?_);(case s=>simp [h1];done);conv=>whnf)|((with_reducible refine NIf.no ?s ?_);(case s=>simp [h1];done);conv=>whnf))|(refine aJ [2] ?_;(try clear hK K);try clear hA hB A B)|refine sxW ?_ ?_<;>intro _|refine aK ?_ ?_|(intro K hK _;conv=>whnf)
    all_goals first | (exfalso;omega) | exact ⟨rfl,Qw.pre 2 rfl⟩
  ·rw [if_neg h1] at hq
   subst hq
   rw [if_neg (by decide)]
   repeat' first|((try intro K hK);(with_reducible refine gC ?_);refine cS [0,1] cn ?_)|((first|intro A B hA hB|intro K hK|skip);first|((with_reducible refine NIf.yes ?s ?_);(case s=>simp [h1];done);conv=>whnf)|((with_reducible refine NIf.no ?s ?_);(case s=>simp [h1];done);conv=>whnf))|(refine sxZ ?_;(try clear hK K);try clear hA hB A B)|refine sxW ?_ ?_<;>intro _|(intro K hK _;conv=>whnf)
   all_goals exact ⟨rfl,Qw.pre 2 rfl⟩
 have hb : -1≤(if x.k=1 then Ps.idx (Ps.words.take many) x.s else -1)∧(if x.k=1 then Ps.idx (Ps.words.take many) x.s else -1)≤6:=by
  split
  ·unfold Ps.idx
   split
   ·omega
   ·rename_i k hk
    have:=(List.findIdx?_eq_some_iff_getElem.1 hk).1
    rw [List.length_take] at this
    omega
  ·omega
 exact Qz.fits (key _ hb.1 hb.2 rfl) fun r m' h=>⟨r,_,rfl,h.2,h.1,rfl⟩
end Go.Proofs.YtmehinfgdcmmjaaGreatDoor
namespace Go.Sx
theorem aH.know {P:Program} {f:FuncId} {args:List AV} {m:List Blk} {K K':AV→List Blk→Prop} {Kp Kp':List PanicEntry→List Blk→Prop} (h:aH P f args m K Kp)
  (hk:∀ r m',K r m'→(∃ w,Qx m' w)→∃ r' m'',r'.den=r.den∧Qw m' m''∧K' r' m'') (hp:∀ ch m',Kp ch m'→∃ m'',Qw m' m''∧Kp' ch m''):aH P f args m K' Kp':=by
 rw [bm] at h ⊢
 refine ⟨h.1,fun w hm=>(h.2 w hm).mono fun e w' hq=>?_⟩
 rcases hq with ⟨r,m',h1,rfl,h3,h4,h5⟩ | ⟨r,m',h1,rfl,h3,h4,h5⟩
 ·obtain ⟨r',m'',h6,h7,h8⟩:=hk r m' h1 ⟨w',h3⟩
  exact .inl ⟨r',m'',h8,by rw [h6],(h7 w' h3).1,h4,fun b hb=>h5.1 b ((h7 w' h3).2.1 b hb),fun b hb=>h5.2 b ((h7 w' h3).2.2 b hb)⟩
 ·obtain ⟨m'',h7,h8⟩:=hp r m' h1
  exact .inr ⟨r,m'',h8,rfl,(h7 w' h3).1,h4,fun b hb=>h5.1 b ((h7 w' h3).2.1 b hb),fun b hb=>h5.2 b ((h7 w' h3).2.2 b hb)⟩
end Go.Sx
namespace Go.Proofs.YtmehinfgdcmmjaaGreatDoor
open Go.Sx
set_option maxRecDepth 20000
set_option linter.unusedSimpArgs false
set_option linter.unusedVariables false
set_option maxHeartbeats 4000000
namespace Ps
structure Good (l:List Lx.T):Prop where
 few:l.length≤1000
 end_:∀ i x,l[i]?=some x→x.k≠4→i+1<l.length
theorem tk_b {l:List Lx.T} {i:Nat} {x:Lx.T} (hx:l[i]?=some x):tk (l.map Lx.b) i=Lx.b x:=by
 unfold tk
 rw [List.getElem?_map,hx]
 rfl
theorem is_b {l:List Lx.T} {i:Nat} {x:Lx.T} (hx:l[i]?=some x) (s:List UInt8):is (l.map Lx.b) i s=((decide (x.k=1)||decide (x.k=3))&&decide (x.s=s)):=by
 unfold is
 rw [tk_b hx]
 rfl
theorem Good.next {l:List Lx.T} (h:Good l) {i:Nat} {x:Lx.T} (hx:l[i]?=some x) {s:List UInt8} (hs:is (l.map Lx.b) i s=true):i+1<l.length:=by
 rw [is_b hx] at hs
 refine h.end_ i x hx fun h4=>?_
 rw [h4] at hs
 simp at hs
def Bad {α:Type} (F:Heap) (v:Value) (l:List Lx.T) (b:Nat) (r:R α) (ch:List PanicEntry) (m:List Blk):Prop :=
 ∃ j x G k,r = .bad j∧l[j]?=some x∧ch=wrong x.at_∧F.le G∧m=[hpB G,pB b v l.length k]
def Got26 (F:Heap) (v:Value) (l:List Lx.T) (b:Nat) (i:Nat) (q:R Pd.T) (r:AV) (m:List Blk):Prop :=
 ∃ p j G u,q = .ok p j∧i≤j∧j<l.length∧F.le G∧Pd.Row G u p.l∧r = .agg (Pd.cs p u)∧m=[hpB G,pB b v l.length j]
def P26 (v:Value) (l:List Lx.T) (f:FuncId) (q:R Pd.T) (i:Nat):Prop :=
 ∀ (F:Heap) (b:Nat),Toks F v l→aH Tryz.prog f [.ptr 1 ⟨b,0,none⟩ 0] [hpB F,pB b v l.length i] (fun r m=>Got26 F v l b i q r m) (fun ch m=>Bad F v l b q ch m)
def Got26L (F:Heap) (v:Value) (l:List Lx.T) (b:Nat) (i:Nat) (q:R (List Pd.T)) (r:AV) (m:List Blk):Prop :=
 ∃ xs j G u,q = .ok xs j∧i≤j∧j<l.length∧F.le G∧Pd.Row G u xs∧r = .hs u xs.length∧m=[hpB G,pB b v l.length j]
end Ps
theorem iV (v:Value) (l:List Lx.T) (hl:Ps.Good l) (s:List UInt8) (g:FuncId) (sp:Nat→Ps.R Pd.T) (i0:Nat) (hi0:i0<l.length) (hg:∀ i,i0≤i→i<l.length→Ps.P26 v l g (sp i) i) (F:Heap) (b:Nat) (hv:Ps.Toks F v l) :
  aH Tryz.prog 236 [.ptr 1 ⟨b,0,none⟩ 0,.str s,.fn g [.ptr 1 ⟨b,0,none⟩ 0] []] [hpB F,Ps.pB b v l.length i0] (fun r m=>Ps.Got26L F v l b i0 (Ps.chain (l.map Lx.b) s sp i0) r m) (fun ch m=>Ps.Bad F v l b (Ps.chain (l.map Lx.b) s sp i0) ch m):=by
 refine aH.know (K:=fun r m=>∃ (ps:List (Pd.T × Value)) (j:Nat) (G:Heap) (w:Value),Ps.chain (l.map Lx.b) s sp i0 = .ok (ps.map (·.1)) j∧i0≤j∧j<l.length∧F.le G∧(∀ p∈ps,Pd.Row G p.2 p.1.l)∧r.den=aw w∧Qw m [hpB G,⟨addrOf w,Pd.psC ps,.row w 39 4 ps.length⟩,Ps.pB b v l.length j]) (Kp:=fun ch m=>∃ j x G k,Ps.chain (l.map Lx.b) s sp i0 = .bad j∧l[j]?=some x∧ch=Ps.wrong x.at_∧F.le G∧Qw m [hpB G,Ps.pB b v l.length k]) ?_ (fun r m' hq ⟨w0,hw0⟩=>?_) (fun ch m' hq=>?_)
 rotate_left
 ·obtain ⟨ps,j,G,w,h1,h2,h3,h4,h5,h6,h7⟩:=hq
  have hok:=((h7 w0 hw0).1.row (List.mem_cons_of_mem _ (List.mem_cons_self ..))).1
  have hrow:=aM (F:=G) (sz:=4) (enc:=Pd.psV) hok (Pd.psC_den ps) (fun x _=>rfl)
  refine ⟨.hs w ps.length,_,h6.symm,h7.trans (Qw.freeze (m:=[Ps.pB b v l.length j])),ps.map (·.1),j,_,w,h1,h2,h3,h4.trans addF.old,?_,by rw [List.length_map],rfl⟩
  exact Pd.row_of hrow fun p hp=>Pd.Row.mono addF.old (h5 p hp)
 ·obtain ⟨j,x,G,k,h1,h2,h3,h4,h5⟩:=hq
  exact ⟨_,h5,j,x,G,k,h1,h2,h3,h4,rfl⟩
 have c0:=hg i0 (Nat.le_refl _) hi0 F b hv
 have hn:=hl.few
 have hspec:Ps.chain (l.map Lx.b) s sp i0=match sp i0 with
  | .ok x j=>Ps.more (l.map Lx.b) s sp ((l.map Lx.b).length+1 - j) [x] j
  | .bad j=>.bad j:=by unfold Ps.chain;cases sp i0<;>rfl
 have hlen:(l.map Lx.b).length=l.length:=List.length_map ..
 rw [hlen] at hspec
 generalize Ps.chain (l.map Lx.b) s sp i0=res at *
 generalize hq0:sp i0=q0 at *
 refine ax Tryz.func236 rfl (by decide) ?_
 unfold Ps.pB at c0 ⊢
 repeat' first|(intro K Kp hK hP;(with_reducible refine gCX ?_);(refine cX [0,1] c0 rfl rfl ?_ ?_;((rintro _ _ ⟨p,j,G,u,h1,h2,h3,h4,h5,rfl,rfl⟩)<;>refine ⟨rfl,_,rfl,?_⟩);rotate_right;((rintro _ _ ⟨j,x,G,k,h1,h2,rfl,h4,rfl⟩)<;>refine ⟨rfl,?_⟩);all_goals (conv=>whnf)))|(refine ah ?_;(try clear hP hK Kp K);try clear hK K)|refine sxW ?_ ?_<;>intro _|(intro K Kp hK hP _;conv=>whnf)|(intro K hK _;conv=>whnf)
 ·refine ⟨j,x,G,k,?_,h2,rfl,h4,Qw.pre 2 rfl⟩
  rw [hspec,h1]
 rename_i b2
 rw [h1] at hspec
 dsimp only at hspec
 refine jY (α:=Heap × Value × List (Pd.T × Value) × Nat × Nat) (fun (G,w,ps,j,n)=>res=Ps.more (l.map Lx.b) s sp n (ps.map (·.1)) j∧i0≤j∧j<l.length∧l.length - j<n∧F.le G∧ps.length≤j+1∧∀ p∈ps,Pd.Row G p.2 p.1.l)
  (fun (G,w,ps,j,n)=>[.k,.k,.k,.k,.k,.k,.k,.set (.sl 2 w ps.length),.k,.k,.k,.d,.d,.d,.d,.d,.d,.d,.d,.k]) (fun (G,w,ps,j,n)=>[.set (hpB G),.set (Ps.pB b v l.length j),.set ⟨addrOf w,Pd.psC ps,.row w 39 4 ps.length⟩]) (fun (G,w,ps,j,n)=>l.length - j)
  (G,.slice (some ⟨b2,0,none⟩) 1 1,[(p,u)],j,l.length+1 - j) ⟨hspec,h2,h3,by omega,h4,by simp,fun x hx=>by rw [List.mem_singleton.1 hx];exact h5⟩ ?_ ?_ ?_
 ·exact aD
 ·exact Qw.eq rfl
 (intro ⟨G1,w,ps,j1,n⟩ ⟨hres,hij,hjl,hnl,hle,hpl,hall⟩;intro K hK;(conv=>whnf);refine hK _ _ ?_;clear hK K)
 dsimp only at hres hij hjl hnl hle hpl hall ⊢
 obtain ⟨n,rfl⟩:∃ k,n=k+1:=⟨n - 1,by omega⟩
 have hx1:l[j1]?=some l[j1]:=List.getElem?_eq_getElem hjl
 have ci:=bu G1 v l (Ps.Toks.mono hle hv) hn b hx1 s
 have hisb:=Ps.is_b hx1 s
 have hnext:=hl.next hx1 (s:=s)
 rw [← hisb] at ci
 unfold Ps.more at hres
 have hpc:=Pd.psC_len ps
 generalize Ps.is (l.map Lx.b) j1 s=qi at *
 cases qi with
 | false =>
  rw [if_neg (by decide)] at ci hres
  repeat' first|(intro K Kp hK hP;(with_reducible refine gCX ?_);(refine aH.of ?_;first|refine cS [0,1] ci ?_))|(refine ah ?_;(try clear hP hK Kp K);try clear hK K)|refine sxW ?_ ?_<;>intro _|(intro K Kp hK hP _;conv=>whnf)|(intro K hK _;conv=>whnf)
  all_goals exact ⟨ps,j1,G1,w,hres,hij,hjl,hle,hall,rfl,Qw.pick [0,2,1] (by decide) rfl⟩
 | true =>
  rw [if_pos rfl] at ci hres
  have c1:=hg (j1+1) (by omega) (hnext rfl) G1 b (Ps.Toks.mono hle hv)
  generalize hq1:sp (j1+1)=q1 at *
  unfold Ps.pB at ci c1
  repeat' first|(intro K Kp hK hP;(with_reducible refine gCX ?_);first|(refine cX [0,1] c1 rfl rfl ?_ ?_;((rintro _ _ ⟨p2,j2,G2,u2,k1,k2,k3,k4,k5,rfl,rfl⟩)<;>refine ⟨rfl,_,rfl,?_⟩);rotate_right;((rintro _ _ ⟨j2,x2,G2,k',k1,k2,rfl,k4,rfl⟩)<;>refine ⟨rfl,?_⟩);all_goals (conv=>whnf))|(refine aH.of ?_;first|refine cS [0,1] ci ?_))|(refine ah ?_;(try clear hP hK Kp K);try clear hK K)|refine sxW ?_ ?_<;>intro _|(intro K Kp hK hP _;conv=>whnf)|(intro K hK _;conv=>whnf)
  ·refine ⟨j2,x2,G2,k',?_,k2,rfl,hle.trans k4,Qw.pre 2 rfl⟩
   rw [hres,k1]
  ·rename_i b3 w2
   have hpn:=Pd.psC_next ps (p2,u2)
   have hpl2:(ps++[(p2,u2)]).length=ps.length+1:=by rw [List.length_append];rfl
   rw [k1] at hres
   dsimp only at hres
   refine aC (G2,w2,ps++[(p2,u2)],j2,n) ⟨by rw [List.map_append];exact hres,Nat.le_trans hij (Nat.le_trans (Nat.le_succ _) k2),k3,by dsimp only;omega,hle.trans k4,by dsimp only;rw [hpl2];omega,fun x hx=>?_⟩ (by show l.length - j2<l.length - j1;omega) ?_ ?_
   ·rcases List.mem_append.1 hx with hx | hx
    ·exact Pd.Row.mono k4 (hall x hx)
    ·rw [List.mem_singleton.1 hx];exact k5
   ·dsimp only
    rw [hpl2]
    exact aD
   ·dsimp only
    rw [hpn,hpl2]
    exact Qw.pre 3 rfl
theorem Ps.wrap_not {α:Type} {f:List α→α} {xs:List α} {j:Nat} (h:¬xs.length=1):Ps.wrap f (.ok xs j) = .ok (f xs) j:=by
 match xs,h with
 | [],_=>rfl
 | _::_::_,_=>rfl
theorem iL (v:Value) (l:List Lx.T) (hl:Ps.Good l) (sp:Nat→Ps.R Pd.T) (i0:Nat) (hi0:i0<l.length) (hg:∀ i,i0≤i→i<l.length→Ps.P26 v l 246 (sp i) i):Ps.P26 v l 237 (Ps.group (l.map Lx.b) sp i0) i0:=by
 intro F b hv
 refine aH.fits (K:=fun r m=>∃ p j G u,Ps.group (l.map Lx.b) sp i0 = .ok p j∧i0≤j∧j<l.length∧F.le G∧Pd.Row G u p.l∧r = .agg (Pd.cs p u)∧Qw m [hpB G,Ps.pB b v l.length j]) (Kp:=fun ch m=>∃ j x G k,Ps.group (l.map Lx.b) sp i0 = .bad j∧l[j]?=some x∧ch=Ps.wrong x.at_∧F.le G∧Qw m [hpB G,Ps.pB b v l.length k]) ?_ (fun r m' ⟨p,j,G,u,h1,h2,h3,h4,h5,h6,h7⟩=>⟨r,_,rfl,h7,p,j,G,u,h1,h2,h3,h4,h5,h6,rfl⟩) (fun ch m' ⟨j,x,G,k,h1,h2,h3,h4,h5⟩=>⟨_,h5,j,x,G,k,h1,h2,h3,h4,rfl⟩)
 have cc:=iV v l hl Ps.wAnd 246 sp i0 hi0 hg F b hv
 have hn:=hl.few
 unfold Ps.group
 generalize Ps.chain (l.map Lx.b) Ps.wAnd sp i0=q at *
 refine ax Tryz.func237 rfl (by decide) ?_
 unfold Ps.pB at cc ⊢
 unfold Ps.wAnd at cc
 repeat' first|(intro K Kp hK hP;(with_reducible refine gCX ?_);(refine cX [0,1] cc rfl rfl ?_ ?_;((rintro _ _ ⟨xs,j,G,u,h1,h2,h3,h4,h5,rfl,rfl⟩)<;>refine ⟨rfl,_,rfl,?_⟩);rotate_right;((rintro _ _ ⟨j,x,G,k,h1,h2,rfl,h4,rfl⟩)<;>refine ⟨rfl,?_⟩);all_goals (conv=>whnf)))|(refine ah ?_;(try clear hP hK Kp K);try clear hK K)|refine sxW ?_ ?_<;>intro _|(intro K Kp hK hP _;conv=>whnf)|(intro K hK _;conv=>whnf)
 ·refine ⟨j,x,G,k,?_,h2,rfl,h4,Qw.pre 2 rfl⟩
  rw [h1]
  rfl
 have huk:=h5.ok
 subst h1
 by_cases hone:xs.length=1
 ·obtain ⟨y,rfl⟩:=List.length_eq_one_iff.1 hone
  obtain ⟨A,cap,hr,d0,d1,d2,d3⟩:=h5.get (i:=0) (x:=y) rfl
  rw [Nat.zero_mul] at d0 d1 d2 d3
  repeat' first|((first|intro A B hA hB|intro K hK|skip);first|((with_reducible refine NIf.yes ?s ?_);(case s=>simp ;done);conv=>whnf)|((with_reducible refine NIf.no ?s ?_);(case s=>simp ;done);conv=>whnf))|(refine ah ?_;(try clear hP hK Kp K);(try clear hK K);try clear hA hB A B)|refine sxW ?_ ?_<;>intro _|(intro K Kp hK hP _;conv=>whnf)|(intro K hK _;conv=>whnf)
  all_goals exact ⟨y,j,G,_,rfl,h2,h3,h4,hr,rfl,Qw.pre 2 rfl⟩
 ·have hw:=Ps.wrap_not (f:=fun xs=>Pd.T.mk 5 0 0 xs) (j:=j) hone
  have hone2:¬(xs.length:Int)=1:=by omega
  repeat' first|((first|intro A B hA hB|intro K hK|skip);first|((with_reducible refine NIf.yes ?s ?_);(case s=>simp [hone2];done);conv=>whnf)|((with_reducible refine NIf.no ?s ?_);(case s=>simp [hone2];done);conv=>whnf))|(refine ah ?_;(try clear hP hK Kp K);(try clear hK K);try clear hA hB A B)|refine sxW ?_ ?_<;>intro _|(intro K Kp hK hP _;conv=>whnf)|(intro K hK _;conv=>whnf)
  all_goals exact ⟨.mk 5 0 0 xs,j,G,u,hw,h2,h3,h4,h5,rfl,Qw.pre 2 rfl⟩
theorem kZ (v:Value) (l:List Lx.T) (hl:Ps.Good l) (sp:Nat→Ps.R Pd.T) (i0:Nat) (hi0:i0<l.length) (hg:∀ i,i0≤i→i<l.length→Ps.P26 v l 237 (Ps.group (l.map Lx.b) sp i) i):Ps.P26 v l 216 (Ps.cond (l.map Lx.b) sp i0) i0:=by
 intro F b hv
 refine aH.fits (K:=fun r m=>∃ p j G u,Ps.cond (l.map Lx.b) sp i0 = .ok p j∧i0≤j∧j<l.length∧F.le G∧Pd.Row G u p.l∧r = .agg (Pd.cs p u)∧Qw m [hpB G,Ps.pB b v l.length j]) (Kp:=fun ch m=>∃ j x G k,Ps.cond (l.map Lx.b) sp i0 = .bad j∧l[j]?=some x∧ch=Ps.wrong x.at_∧F.le G∧Qw m [hpB G,Ps.pB b v l.length k]) ?_ (fun r m' ⟨p,j,G,u,h1,h2,h3,h4,h5,h6,h7⟩=>⟨r,_,rfl,h7,p,j,G,u,h1,h2,h3,h4,h5,h6,rfl⟩) (fun ch m' ⟨j,x,G,k,h1,h2,h3,h4,h5⟩=>⟨_,h5,j,x,G,k,h1,h2,h3,h4,rfl⟩)
 have cc:=iV v l hl Ps.wOr 237 (Ps.group (l.map Lx.b) sp) i0 hi0 hg F b hv
 have hn:=hl.few
 unfold Ps.cond
 generalize Ps.chain (l.map Lx.b) Ps.wOr (Ps.group (l.map Lx.b) sp) i0=q at *
 refine ax Tryz.func216 rfl (by decide) ?_
 unfold Ps.pB at cc ⊢
 unfold Ps.wOr at cc
 repeat' first|(intro K Kp hK hP;(with_reducible refine gCX ?_);(refine cX [0,1] cc rfl rfl ?_ ?_;((rintro _ _ ⟨xs,j,G,u,h1,h2,h3,h4,h5,rfl,rfl⟩)<;>refine ⟨rfl,_,rfl,?_⟩);rotate_right;((rintro _ _ ⟨j,x,G,k,h1,h2,rfl,h4,rfl⟩)<;>refine ⟨rfl,?_⟩);all_goals (conv=>whnf)))|(refine ah ?_;(try clear hP hK Kp K);try clear hK K)|refine sxW ?_ ?_<;>intro _|(intro K Kp hK hP _;conv=>whnf)|(intro K hK _;conv=>whnf)
 ·refine ⟨j,x,G,k,?_,h2,rfl,h4,Qw.pre 2 rfl⟩
  rw [h1]
  rfl
 have huk:=h5.ok
 subst h1
 by_cases hone:xs.length=1
 ·obtain ⟨y,rfl⟩:=List.length_eq_one_iff.1 hone
  obtain ⟨A,cap,hr,d0,d1,d2,d3⟩:=h5.get (i:=0) (x:=y) rfl
  rw [Nat.zero_mul] at d0 d1 d2 d3
  repeat' first|((first|intro A B hA hB|intro K hK|skip);first|((with_reducible refine NIf.yes ?s ?_);(case s=>simp ;done);conv=>whnf)|((with_reducible refine NIf.no ?s ?_);(case s=>simp ;done);conv=>whnf))|(refine ah ?_;(try clear hP hK Kp K);(try clear hK K);try clear hA hB A B)|refine sxW ?_ ?_<;>intro _|(intro K Kp hK hP _;conv=>whnf)|(intro K hK _;conv=>whnf)
  all_goals exact ⟨y,j,G,_,rfl,h2,h3,h4,hr,rfl,Qw.pre 2 rfl⟩
 ·have hw:=Ps.wrap_not (f:=fun xs=>Pd.T.mk 6 0 0 xs) (j:=j) hone
  have hone2:¬(xs.length:Int)=1:=by omega
  repeat' first|((first|intro A B hA hB|intro K hK|skip);first|((with_reducible refine NIf.yes ?s ?_);(case s=>simp [hone2];done);conv=>whnf)|((with_reducible refine NIf.no ?s ?_);(case s=>simp [hone2];done);conv=>whnf))|(refine ah ?_;(try clear hP hK Kp K);(try clear hK K);try clear hA hB A B)|refine sxW ?_ ?_<;>intro _|(intro K Kp hK hP _;conv=>whnf)|(intro K hK _;conv=>whnf)
  all_goals exact ⟨.mk 6 0 0 xs,j,G,u,hw,h2,h3,h4,h5,rfl,Qw.pre 2 rfl⟩
end Go.Proofs.YtmehinfgdcmmjaaGreatDoor
