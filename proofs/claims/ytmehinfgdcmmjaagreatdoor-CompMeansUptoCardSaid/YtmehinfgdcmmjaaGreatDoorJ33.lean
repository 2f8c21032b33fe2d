import Derived.Test.YtmehinfgdcmmjaaGreatDoorJ31
import Derived.Test.YtmehinfgdcmmjaaGreatDoorJ32
import Derived.Test.YtmehinfgdcmmjaaGreatDoorJ30
import Derived.Test.YtmehinfgdcmmjaaGreatDoorJ8
import Derived.Test.YtmehinfgdcmmjaaGreatDoorJ10
namespace Go.Proofs.YtmehinfgdcmmjaaGreatDoor
open Go.Sx
set_option maxRecDepth 20000
set_option linter.unusedSimpArgs false
set_option linter.unusedVariables false
set_option maxHeartbeats 4000000
set_option linter.unusedVariables false
set_option linter.unusedSectionVars false
namespace Ps
abbrev Toks (F:Heap) (v:Value) (l:List Lx.T):Prop:=RowF F 4 (fun x vs=>vs=Lx.tokV x) v l
theorem Toks.mono {F G:Heap} (h:F.le G) {v:Value} {l:List Lx.T} (hv:Toks F v l):Toks G v l:=RowF.mono h (fun _ _ h=>h) hv
theorem Toks.get {F:Heap} {v:Value} {l:List Lx.T} (hv:Toks F v l) {i:Nat} {x:Lx.T} (hx:l[i]?=some x):F.c ((addrOf v).add (i*4)) (.int .i64 x.k)∧F.c ((addrOf v).add (i*4+1)) (.int .i64 x.n)∧F.c ((addrOf v).add (i*4+2)) (.string ⟨x.s.toArray⟩)∧F.c ((addrOf v).add (i*4+3)) (.int .i64 x.at_):=by
 obtain ⟨us,h1,_,h2⟩:=hv.at_ i x hx
 subst h1
 obtain ⟨c0,c1,c2,c3,_⟩:=h2
 exact ⟨c0,c1,c2,c3⟩
def pB (b:Nat) (v:Value) (n i:Nat):Blk:=⟨⟨b,0,none⟩,[.hs v n,.int .i64 i],.var 187⟩
def wrong (at_:Int):List PanicEntry:=[{ v:=.iface 184 (.int .i64 at_),recovered:=false }]
end Ps
section
variable (F:Heap) (v:Value) (l:List Lx.T) (hv:Ps.Toks F v l) (hn:l.length≤1000) (b:Nat)
include hv hn
theorem now29_c {i:Nat} {x:Lx.T} (hx:l[i]?=some x):NCall Tryz.prog 127 [.ptr 1 ⟨b,0,none⟩ 0] [hpB F,Ps.pB b v l.length i] fun r m=>r = .agg [.int .i64 x.k,.int .i64 x.n,.str x.s,.int .i64 x.at_]∧m=[hpB F,Ps.pB b v l.length i]:=by
 refine NCall.fits (K:=fun r m=>r = .agg [.int .i64 x.k,.int .i64 x.n,.str x.s,.int .i64 x.at_]∧MemFits m [hpB F,Ps.pB b v l.length i]) ?_ fun r m' h=>⟨r,_,rfl,h.2,h.1,rfl⟩
 have hok:=hv.ok
 have hi:=(List.getElem?_eq_some_iff.1 hx).1
 obtain ⟨c0,c1,c2,c3⟩:=hv.get hx
 unfold Ps.pB
 refine ncall_of Tryz.func127 rfl (by decide) ?_
 repeat' first|(refine sxZK [2] ?_;try clear hK K)|refine sxW ?_ ?_<;>intro _|refine sxVK ?_ ?_|(intro K hK _;(conv=>whnf))
 all_goals exact ⟨rfl,MemFits.pre 2 rfl⟩
theorem fail29_c {i:Nat} {x:Lx.T} (hx:l[i]?=some x):NCallX Tryz.prog 128 [.ptr 1 ⟨b,0,none⟩ 0] [hpB F,Ps.pB b v l.length i] (fun _ _=>False) fun ch m=>ch=Ps.wrong x.at_∧m=[hpB F,Ps.pB b v l.length i]:=by
 have cn:=now29_c F v l hv hn b hx
 unfold Ps.pB at cn ⊢
 refine ncallx_of Tryz.func128 rfl (by decide) ?_
 repeat' first|(intro K Kp hK hP;(with_reducible refine gCX ?_);(refine NCallX.of ?_;first|refine cS [0,1] cn ?_))|(refine sxZX ?_;(try clear hP hK Kp K);try clear hK K)|refine sxW ?_ ?_<;>intro _|(intro K Kp hK hP _;(conv=>whnf))|(intro K hK _;(conv=>whnf))
 all_goals exact ⟨rfl,rfl⟩
theorem is29_c {i:Nat} {x:Lx.T} (hx:l[i]?=some x) (s:List UInt8):NCall Tryz.prog 172 [.ptr 1 ⟨b,0,none⟩ 0,.str s] [hpB F,Ps.pB b v l.length i] fun r m=>r = .bool ((decide (x.k=1)||decide (x.k=3))&&decide (x.s=s))∧m=[hpB F,Ps.pB b v l.length (if ((decide (x.k=1)||decide (x.k=3))&&decide (x.s=s))=true then i+1 else i)]:=by
 have hi:=(List.getElem?_eq_some_iff.1 hx).1
 have cn:=now29_c F v l hv hn b hx
 have key:∀ q:Bool,q=((decide (x.k=1)||decide (x.k=3))&&decide (x.s=s))→NCall Tryz.prog 172 [.ptr 1 ⟨b,0,none⟩ 0,.str s] [hpB F,Ps.pB b v l.length i] fun r m=>r = .bool q∧MemFits m [hpB F,Ps.pB b v l.length (if q=true then i+1 else i)]:=fun q hq=>by
  unfold Ps.pB at cn ⊢
  refine ncall_of Tryz.func172 rfl (by decide) ?_
  by_cases h1:x.k=1∨x.k=3
  ·rw [show (decide (x.k=1)||decide (x.k=3))=true by simpa using h1,Bool.true_and] at hq
   by_cases h2:x.s=s
   ·rw [decide_eq_true h2] at hq
    subst hq h2
    rcases h1 with h1 | h1
    iterate 2
     ·repeat' first|((try intro K hK);(with_reducible refine gC ?_);refine cS [0,1] cn ?_)|((first|intro A B hA hB|intro K hK|skip);first|((with_reducible refine NIf.yes ?s ?_);(case s=>simp [h1];done);(conv=>whnf))|((with_reducible refine NIf.no ?s ?_);(case s=>simp [h1];done);(conv=>whnf)))|(refine sxZ ?_;(try clear hK K);try clear hA hB A B)|refine sxW ?_ ?_<;>intro _|(intro K hK _;(conv=>whnf))
      all_goals exact ⟨rfl,MemFits.pre 2 rfl⟩
   ·rw [decide_eq_false h2] at hq
    subst hq
    rcases h1 with h1 | h1
    iterate 2
     ·repeat' first|((try intro K hK);(with_reducible refine gC ?_);refine cS [0,1] cn ?_)|((first|intro A B hA hB|intro K hK|skip);first|((with_reducible refine NIf.yes ?s ?_);(case s=>simp [h1,h2];done);(conv=>whnf))|((with_reducible refine NIf.no ?s ?_);(case s=>simp [h1,h2];done);(conv=>whnf)))|(refine sxZ ?_;(try clear hK K);try clear hA hB A B)|refine sxW ?_ ?_<;>intro _|(intro K hK _;(conv=>whnf))
      all_goals exact ⟨rfl,MemFits.pre 2 rfl⟩
  ·rw [show (decide (x.k=1)||decide (x.k=3))=false by simpa using h1,Bool.false_and] at hq
   subst hq
   have h3:x.k≠1:=fun h=>h1 (.inl h)
   have h4:x.k≠3:=fun h=>h1 (.inr h)
   repeat' first|((try intro K hK);(with_reducible refine gC ?_);refine cS [0,1] cn ?_)|((first|intro A B hA hB|intro K hK|skip);first|((with_reducible refine NIf.yes ?s ?_);(case s=>simp [h3,h4];done);(conv=>whnf))|((with_reducible refine NIf.no ?s ?_);(case s=>simp [h3,h4];done);(conv=>whnf)))|(refine sxZ ?_;(try clear hK K);try clear hA hB A B)|refine sxW ?_ ?_<;>intro _|(intro K hK _;(conv=>whnf))
   all_goals exact ⟨rfl,MemFits.pre 2 rfl⟩
 exact NCall.fits (key _ rfl) fun r m' h=>⟨r,_,rfl,h.2,h.1,rfl⟩
theorem must29_c {i:Nat} {x:Lx.T} (hx:l[i]?=some x) (s:List UInt8):NCallX Tryz.prog 217 [.ptr 1 ⟨b,0,none⟩ 0,.str s] [hpB F,Ps.pB b v l.length i] (fun r m=>((decide (x.k=1)||decide (x.k=3))&&decide (x.s=s))=true∧r = .tup []∧m=[hpB F,Ps.pB b v l.length (i+1)]) fun ch m=>((decide (x.k=1)||decide (x.k=3))&&decide (x.s=s))=false∧ch=Ps.wrong x.at_∧m=[hpB F,Ps.pB b v l.length i]:=by
 have ci:=is29_c F v l hv hn b hx s
 have cf:=fail29_c F v l hv hn b hx
 generalize ((decide (x.k=1)||decide (x.k=3))&&decide (x.s=s))=q at *
 unfold Ps.pB at ci cf ⊢
 refine ncallx_of Tryz.func217 rfl (by decide) ?_
 cases q with
 | true =>
  rw [if_pos rfl] at ci
  repeat' first|(intro K Kp hK hP;(with_reducible refine gCX ?_);(refine NCallX.of ?_;first|refine cS [0,1] ci ?_))|(refine sxZX ?_;(try clear hP hK Kp K);try clear hK K)|refine sxW ?_ ?_<;>intro _|(intro K Kp hK hP _;(conv=>whnf))|(intro K hK _;(conv=>whnf))
  all_goals exact ⟨rfl,rfl,rfl⟩
 | false =>
  rw [if_neg (by decide)] at ci
  repeat' first|(intro K Kp hK hP;(with_reducible refine gCX ?_);first|(refine cX [0,1] cf rfl rfl ?_ ?_;((rintro _ _ ⟨⟩)<;>refine ⟨rfl,_,rfl,?_⟩);rotate_right;((rintro _ _ ⟨rfl,rfl⟩)<;>refine ⟨rfl,?_⟩);all_goals (conv=>whnf))|(refine NCallX.of ?_;first|refine cS [0,1] ci ?_))|(refine sxZX ?_;(try clear hP hK Kp K);try clear hK K)|refine sxW ?_ ?_<;>intro _|(intro K Kp hK hP _;(conv=>whnf))|(intro K hK _;(conv=>whnf))
  all_goals exact ⟨rfl,rfl,rfl⟩
theorem number29_c {i:Nat} {x:Lx.T} (hx:l[i]?=some x):NCallX Tryz.prog 219 [.ptr 1 ⟨b,0,none⟩ 0] [hpB F,Ps.pB b v l.length i] (fun r m=>x.k=2∧r = .int .i64 x.n∧m=[hpB F,Ps.pB b v l.length (i+1)]) fun ch m=>x.k≠2∧ch=Ps.wrong x.at_∧m=[hpB F,Ps.pB b v l.length i]:=by
 refine NCallX.fits (K:=fun r m=>x.k=2∧r = .int .i64 x.n∧MemFits m [hpB F,Ps.pB b v l.length (i+1)]) (Kp:=fun ch m=>x.k≠2∧ch=Ps.wrong x.at_∧MemFits m [hpB F,Ps.pB b v l.length i]) ?_ (fun r m' h=>⟨r,_,rfl,h.2.2,h.1,h.2.1,rfl⟩) fun ch m' h=>⟨_,h.2.2,h.1,h.2.1,rfl⟩
 have hi:=(List.getElem?_eq_some_iff.1 hx).1
 have cn:=now29_c F v l hv hn b hx
 have cf:=fail29_c F v l hv hn b hx
 unfold Ps.pB at cn cf ⊢
 refine ncallx_of Tryz.func219 rfl (by decide) ?_
 by_cases h:x.k=2
 ·repeat' first|(intro K Kp hK hP;(with_reducible refine gCX ?_);(refine NCallX.of ?_;first|refine cS [0,1] cn ?_))|((first|intro A B hA hB|intro K hK|skip);first|((with_reducible refine NIf.yes ?s ?_);(case s=>simp [h];done);(conv=>whnf))|((with_reducible refine NIf.no ?s ?_);(case s=>simp [h];done);(conv=>whnf)))|(refine sxZX ?_;(try clear hP hK Kp K);(try clear hK K);try clear hA hB A B)|refine sxW ?_ ?_<;>intro _|(intro K Kp hK hP _;(conv=>whnf))|(intro K hK _;(conv=>whnf))
  all_goals exact ⟨h,rfl,MemFits.pre 2 rfl⟩
 ·repeat' first|(intro K Kp hK hP;(with_reducible refine gCX ?_);first|(refine cX [0,1] cf rfl rfl ?_ ?_;((rintro _ _ ⟨⟩)<;>refine ⟨rfl,_,rfl,?_⟩);rotate_right;((rintro _ _ ⟨rfl,rfl⟩)<;>refine ⟨rfl,?_⟩);all_goals (conv=>whnf))|(refine NCallX.of ?_;first|refine cS [0,1] cn ?_))|((first|intro A B hA hB|intro K hK|skip);first|((with_reducible refine NIf.yes ?s ?_);(case s=>simp [h];done);(conv=>whnf))|((with_reducible refine NIf.no ?s ?_);(case s=>simp [h];done);(conv=>whnf)))|(refine sxZX ?_;(try clear hP hK Kp K);(try clear hK K);try clear hA hB A B)|refine sxW ?_ ?_<;>intro _|(intro K Kp hK hP _;(conv=>whnf))|(intro K hK _;(conv=>whnf))
  all_goals exact ⟨h,rfl,MemFits.pre 2 rfl⟩
end
end Go.Proofs.YtmehinfgdcmmjaaGreatDoor
namespace Go.Proofs.YtmehinfgdcmmjaaGreatDoor
open Go.Sx
set_option maxRecDepth 20000
set_option linter.unusedSimpArgs false
set_option linter.unusedVariables false
set_option maxHeartbeats 4000000
set_option linter.unusedVariables false
namespace Ps
def idx (ws:List (List UInt8)) (s:List UInt8):Int:=match ws.findIdx? (fun w=>decide (w=s)) with
 | none=>-1
 | some k=>k
theorem idx_some {ws:List (List UInt8)} {s:List UInt8} {i:Nat} (hx:ws[i]?=some s) (hno:∀ j,j<i→ws[j]?≠some s):idx ws s=i:=by
 obtain ⟨hi,hs⟩:=List.getElem?_eq_some_iff.1 hx
 have:ws.findIdx? (fun w=>decide (w=s))=some i:=List.findIdx?_eq_some_iff_getElem.2 ⟨hi,by simp [hs],fun j hj=>by
  have:=hno j hj
  rw [List.getElem?_eq_getElem (by omega)] at this
  simpa using this⟩
 unfold idx
 rw [this]
theorem idx_none {ws:List (List UInt8)} {s:List UInt8} (hno:∀ j,j<ws.length→ws[j]?≠some s):idx ws s = -1:=by
 have:ws.findIdx? (fun w=>decide (w=s))=none:=List.findIdx?_eq_none_iff.2 fun x hx=>by
  obtain ⟨j,hj⟩:=List.getElem?_of_mem hx
  have:=hno j (List.getElem?_eq_some_iff.1 hj).1
  rw [hj] at this
  simpa using this
 unfold idx
 rw [this]
abbrev SRow (F:Heap) (v:Value) (ws:List (List UInt8)):Prop:=RowF F 1 (fun w us=>us=[Value.string ⟨w.toArray⟩]) v ws
theorem SRow.get {F:Heap} {v:Value} {ws:List (List UInt8)} (h:SRow F v ws) {i:Nat} {w:List UInt8} (hx:ws[i]?=some w):F.c ((addrOf v).add i) (.string ⟨w.toArray⟩):=by
 obtain ⟨us,h1,_,h2⟩:=h.at_ i w hx
 subst h1
 simp only [CellsF,Nat.mul_one] at h2
 exact h2.1
end Ps
theorem index29_c (F:Heap) (v:Value) (ws:List (List UInt8)) (hv:Ps.SRow F v ws) (hn:ws.length≤1000) (s:List UInt8):NCall Tryz.prog 238 [.hs v ws.length,.str s] [hpB F] fun r m=>r = .int .i64 (Ps.idx ws s)∧m=[hpB F]:=by
 refine NCall.fits (K:=fun r m=>r = .int .i64 (Ps.idx ws s)∧MemFits m [hpB F]) ?_ fun r m' h=>⟨r,_,rfl,h.2,h.1,rfl⟩
 have hok:=hv.ok
 refine ncall_of Tryz.func238 rfl (by decide) ?_
 repeat' first|(refine sxZ ?_;try clear hK K)|refine sxW ?_ ?_<;>intro _|(intro K hK _;(conv=>whnf))
 refine st_auto (α:=Nat) (fun i=>i≤ws.length∧∀ j,j<i→ws[j]?≠some s) (fun i=>[.keep,.keep,.keep,.keep,.set (.int .i64 0),.drop,.keep,.keep,.set (.int .i64 i),.drop,.drop,.drop,.drop,.drop,.drop,.drop,.drop,.drop,.drop]) (fun _=>[]) (fun i=>ws.length - i) 0 ⟨Nat.zero_le _,fun j h=>absurd h (Nat.not_lt_zero _)⟩ ?_ (MemFits.eq rfl) ?_
 ·exact fitsGo
 (intro i ⟨hi,hno⟩;intro K hK;(conv=>whnf);refine hK _ _ ?_;clear hK K)
 by_cases hlt:i<ws.length
 ·have hx:ws[i]?=some ws[i]:=List.getElem?_eq_getElem hlt
  have c0:=hv.get hx
  have hyes:ws[i]=s→Ps.idx ws s=i:=fun e=>Ps.idx_some (by rw [hx,e]) hno
  have hnx:ws[i]≠s→∀ j,j<i+1→ws[j]?≠some s:=fun e j hj=>by
   rcases Nat.lt_or_ge j i with h | h
   ·exact hno j h
   ·obtain rfl:j=i:=by omega
    rw [hx]
    simpa using e
  generalize ws[i]=w at *
  by_cases hw:w=s
  ·subst hw
   repeat' first|((first|intro A B hA hB|intro K hK|skip);first|((with_reducible refine NIf.yes ?s ?_);(case s=>simp ;done);(conv=>whnf))|((with_reducible refine NIf.no ?s ?_);(case s=>simp ;done);(conv=>whnf)))|(refine sxZK [] ?_;(try clear hK K);try clear hA hB A B)|refine sxW ?_ ?_<;>intro _|refine sxVK ?_ ?_|(intro K hK _;(conv=>whnf))
   all_goals exact ⟨by rw [hyes rfl],MemFits.pre 1 rfl⟩
  ·have hw2:s≠w:=fun h=>hw h.symm
   repeat' first|((first|intro A B hA hB|intro K hK|skip);first|((with_reducible refine NIf.yes ?s ?_);(case s=>simp [hw2];done);(conv=>whnf))|((with_reducible refine NIf.no ?s ?_);(case s=>simp [hw2];done);(conv=>whnf)))|(refine sxZK [] ?_;(try clear hK K);try clear hA hB A B)|refine sxW ?_ ?_<;>intro _|refine sxVK ?_ ?_|(intro K hK _;(conv=>whnf))
   all_goals refine st_round (i+1) ⟨hlt,hnx hw⟩ (by omega) ?_ (MemFits.eq rfl)
   all_goals exact fitsGo
 ·obtain rfl:i=ws.length:=by omega
  rw [Ps.idx_none hno]
  repeat' first|(refine sxZ ?_;try clear hK K)|refine sxW ?_ ?_<;>intro _|(intro K hK _;(conv=>whnf))
  all_goals exact ⟨rfl,MemFits.pre 1 rfl⟩
theorem indexW_c (F:Heap) (b j many:Nat) (hm:many≤6) (s:List UInt8):NCall Tryz.prog 238 [.view j (.slice (some ⟨b,0,none⟩) 6 6) 1 0 many,.str s] [hpB F,⟨⟨b,0,none⟩,[.str [115,114,99],.str [100,115,116],.str [107,105,110,100],.str [116,97,103],.str [112,111,114,116],.str [115,119,105,116,99,104]],.row (.slice (some ⟨b,0,none⟩) 6 6) 9 1 6⟩]
  fun r m=>r = .int .i64 (Ps.idx (Ps.words.take many) s)∧m=[hpB F,⟨⟨b,0,none⟩,[.str [115,114,99],.str [100,115,116],.str [107,105,110,100],.str [116,97,103],.str [112,111,114,116],.str [115,119,105,116,99,104]],.row (.slice (some ⟨b,0,none⟩) 6 6) 9 1 6⟩]:=by
 have hok:SlOk (.slice (some ⟨b,0,none⟩) 6 6) 6:=⟨_,_,rfl,Nat.le_refl _,fun h=>by cases h⟩
 have hcs:denL ([.str [115,114,99],.str [100,115,116],.str [107,105,110,100],.str [116,97,103],.str [112,111,114,116],.str [115,119,105,116,99,104]]:List AV)=Ps.words.flatMap fun w=>[Value.string ⟨w.toArray⟩]:=rfl
 have hrow:=rowF_new (F:=F) (sz:=1) (enc:=fun w:List UInt8=>[Value.string ⟨w.toArray⟩]) (l:=Ps.words) hok hcs (fun x _=>rfl)
 have hcut:=RowF.cut hrow (lo:=0) (hi:=many) (Nat.zero_le _) hm
 rw [List.drop_zero,Nat.sub_zero] at hcut
 have hl:(Ps.words.take many).length=many:=by rw [List.length_take];exact Nat.min_eq_left hm
 have cc:=index29_c _ _ (Ps.words.take many) hcut (by omega) s
 rw [hl] at cc
 refine NCall.keep cc (by have e:slOf (cutSl (.slice (some ⟨b,0,none⟩) 6 6) 1 0 many)=cutSl (.slice (some ⟨b,0,none⟩) 6 6) 1 0 many:=slOf_cutSl _ 1 0 many;simp [denL,AV.den];exact e) (MemFits.freeze (m:=[])) rfl fun u mL ⟨h1,h2⟩=>⟨u,rfl,h1,rfl⟩
theorem field29_c (F:Heap) (v:Value) (l:List Lx.T) (hv:Ps.Toks F v l) (hn:l.length≤1000) (b:Nat) {i many:Nat} (hm:many≤6) {x:Lx.T} (hx:l[i]?=some x):NCall Tryz.prog 218 [.ptr 1 ⟨b,0,none⟩ 0,.int .i64 many] [hpB F,Ps.pB b v l.length i] fun r m=>r = .int .i64 (if x.k=1 then Ps.idx (Ps.words.take many) x.s else -1)∧m=[hpB F,Ps.pB b v l.length (if 0≤(if x.k=1 then Ps.idx (Ps.words.take many) x.s else -1) then i+1 else i)]:=by
 have hi:=(List.getElem?_eq_some_iff.1 hx).1
 have cn:=now29_c F v l hv hn b hx
 have key:∀ q:Int, -1≤q→q≤6→q=(if x.k=1 then Ps.idx (Ps.words.take many) x.s else -1)→NCall Tryz.prog 218 [.ptr 1 ⟨b,0,none⟩ 0,.int .i64 many] [hpB F,Ps.pB b v l.length i] fun r m=>r = .int .i64 q∧MemFits m [hpB F,Ps.pB b v l.length (if 0≤q then i+1 else i)]:=fun q hq1 hq2 hq=>by
  have cx:=fun b' j=>indexW_c F b' j many hm x.s
  unfold Ps.pB at cn ⊢
  refine ncall_of Tryz.func218 rfl (by decide) ?_
  by_cases h1:x.k=1
  ·rw [if_pos h1] at hq
   rw [← hq] at cx
   by_cases h0:0≤q
   ·rw [if_pos h0]
    repeat' first|((try intro K hK);(with_reducible refine gC ?_);first|refine cS [0,1] cn ?_|refine cS [0,3] (cx _ _) ?_)|((first|intro A B hA hB|intro K hK|skip);first|((with_reducible refine NIf.yes ?s ?_);(case s=>simp [h1];done);(conv=>whnf))|((with_reducible refine NIf.no ?s ?_);(case s=>simp [h1];done);(conv=>whnf)))|(refine sxZK [2] ?_;(try clear hK K);try clear hA hB A B)|refine sxW ?_ ?_<;>intro _|refine sxVK ?_ ?_|(intro K hK _;(conv=>whnf))
    all_goals first | (exfalso;omega) | exact ⟨rfl,MemFits.pre 2 rfl⟩
   ·rw [if_neg h0]
    repeat' first|((try intro K hK);(with_reducible refine gC ?_);first|refine cS [0,1] cn ?_|refine cS [0,3] (cx _ _) ?_)|((first|intro A B hA hB|intro K hK|skip);first|((with_reducible refine NIf.yes ?s ?_);(case s=>simp [h1];done);(conv=>whnf))|((with_reducible refine NIf.no ?s ?_);(case s=>simp [h1];done);(conv=>whnf)))|(refine sxZK [2] ?_;(try clear hK K);try clear hA hB A B)|refine sxW ?_ ?_<;>intro _|refine sxVK ?_ ?_|(intro K hK _;(conv=>whnf))
    all_goals first | (exfalso;omega) | exact ⟨rfl,MemFits.pre 2 rfl⟩
  ·rw [if_neg h1] at hq
   subst hq
   rw [if_neg (by decide)]
   repeat' first|((try intro K hK);(with_reducible refine gC ?_);refine cS [0,1] cn ?_)|((first|intro A B hA hB|intro K hK|skip);first|((with_reducible refine NIf.yes ?s ?_);(case s=>simp [h1];done);(conv=>whnf))|((with_reducible refine NIf.no ?s ?_);(case s=>simp [h1];done);(conv=>whnf)))|(refine sxZ ?_;(try clear hK K);try clear hA hB A B)|refine sxW ?_ ?_<;>intro _|(intro K hK _;(conv=>whnf))
   all_goals exact ⟨rfl,MemFits.pre 2 rfl⟩
 have hb : -1≤(if x.k=1 then Ps.idx (Ps.words.take many) x.s else -1)∧(if x.k=1 then Ps.idx (Ps.words.take many) x.s else -1)≤6:=by
  split
  ·unfold Ps.idx
   split
   ·omega
   ·rename_i k hk
    have:=(List.findIdx?_eq_some_iff_getElem.1 hk).1
    rw [List.length_take] at this
    omega
  ·omega
 exact NCall.fits (key _ hb.1 hb.2 rfl) fun r m' h=>⟨r,_,rfl,h.2,h.1,rfl⟩
end Go.Proofs.YtmehinfgdcmmjaaGreatDoor
namespace Go.Sx
theorem NCallX.know {P:Program} {f:FuncId} {args:List AV} {m:List Blk} {K K':AV→List Blk→Prop} {Kp Kp':List PanicEntry→List Blk→Prop} (h:NCallX P f args m K Kp)
  (hk:∀ r m',K r m'→(∃ w,MemOk m' w)→∃ r' m'',r'.den=r.den∧MemFits m' m''∧K' r' m'') (hp:∀ ch m',Kp ch m'→∃ m'',MemFits m' m''∧Kp' ch m''):NCallX P f args m K' Kp':=by
 rw [NCallX_iff] at h ⊢
 refine ⟨h.1,fun w hm=>(h.2 w hm).mono fun e w' hq=>?_⟩
 rcases hq with ⟨r,m',h1,rfl,h3,h4,h5⟩ | ⟨r,m',h1,rfl,h3,h4,h5⟩
 ·obtain ⟨r',m'',h6,h7,h8⟩:=hk r m' h1 ⟨w',h3⟩
  exact .inl ⟨r',m'',h8,by rw [h6],(h7 w' h3).1,h4,fun b hb=>h5.1 b ((h7 w' h3).2.1 b hb),fun b hb=>h5.2 b ((h7 w' h3).2.2 b hb)⟩
 ·obtain ⟨m'',h7,h8⟩:=hp r m' h1
  exact .inr ⟨r,m'',h8,rfl,(h7 w' h3).1,h4,fun b hb=>h5.1 b ((h7 w' h3).2.1 b hb),fun b hb=>h5.2 b ((h7 w' h3).2.2 b hb)⟩
end Go.Sx
namespace Go.Proofs.YtmehinfgdcmmjaaGreatDoor
open Go.Sx
set_option maxRecDepth 20000
set_option linter.unusedSimpArgs false
set_option linter.unusedVariables false
set_option maxHeartbeats 4000000
set_option linter.unusedVariables false
namespace Ps
structure Good (l:List Lx.T):Prop where
 few:l.length≤1000
 end_:∀ i x,l[i]?=some x→x.k≠4→i+1<l.length
theorem tk_b {l:List Lx.T} {i:Nat} {x:Lx.T} (hx:l[i]?=some x):tk (l.map Lx.b) i=Lx.b x:=by
 unfold tk
 rw [List.getElem?_map,hx]
 rfl
theorem is_b {l:List Lx.T} {i:Nat} {x:Lx.T} (hx:l[i]?=some x) (s:List UInt8):is (l.map Lx.b) i s=((decide (x.k=1)||decide (x.k=3))&&decide (x.s=s)):=by
 unfold is
 rw [tk_b hx]
 rfl
theorem Good.next {l:List Lx.T} (h:Good l) {i:Nat} {x:Lx.T} (hx:l[i]?=some x) {s:List UInt8} (hs:is (l.map Lx.b) i s=true):i+1<l.length:=by
 rw [is_b hx] at hs
 refine h.end_ i x hx fun h4=>?_
 rw [h4] at hs
 simp at hs
def Bad {α:Type} (F:Heap) (v:Value) (l:List Lx.T) (b:Nat) (r:R α) (ch:List PanicEntry) (m:List Blk):Prop :=
 ∃ j x G k,r = .bad j∧l[j]?=some x∧ch=wrong x.at_∧F.le G∧m=[hpB G,pB b v l.length k]
def Got26 (F:Heap) (v:Value) (l:List Lx.T) (b:Nat) (i:Nat) (q:R Pd.T) (r:AV) (m:List Blk):Prop :=
 ∃ p j G u,q = .ok p j∧i≤j∧j<l.length∧F.le G∧Pd.Row G u p.l∧r = .agg (Pd.cs p u)∧m=[hpB G,pB b v l.length j]
def P26 (v:Value) (l:List Lx.T) (f:FuncId) (q:R Pd.T) (i:Nat):Prop :=
 ∀ (F:Heap) (b:Nat),Toks F v l→NCallX Tryz.prog f [.ptr 1 ⟨b,0,none⟩ 0] [hpB F,pB b v l.length i] (fun r m=>Got26 F v l b i q r m) (fun ch m=>Bad F v l b q ch m)
def Got26L (F:Heap) (v:Value) (l:List Lx.T) (b:Nat) (i:Nat) (q:R (List Pd.T)) (r:AV) (m:List Blk):Prop :=
 ∃ xs j G u,q = .ok xs j∧i≤j∧j<l.length∧F.le G∧Pd.Row G u xs∧r = .hs u xs.length∧m=[hpB G,pB b v l.length j]
end Ps
theorem chain26_c (v:Value) (l:List Lx.T) (hl:Ps.Good l) (s:List UInt8) (g:FuncId) (sp:Nat→Ps.R Pd.T) (i0:Nat) (hi0:i0<l.length) (hg:∀ i,i0≤i→i<l.length→Ps.P26 v l g (sp i) i) (F:Heap) (b:Nat) (hv:Ps.Toks F v l) :
  NCallX Tryz.prog 236 [.ptr 1 ⟨b,0,none⟩ 0,.str s,.fn g [.ptr 1 ⟨b,0,none⟩ 0] []] [hpB F,Ps.pB b v l.length i0] (fun r m=>Ps.Got26L F v l b i0 (Ps.chain (l.map Lx.b) s sp i0) r m) (fun ch m=>Ps.Bad F v l b (Ps.chain (l.map Lx.b) s sp i0) ch m):=by
 refine NCallX.know (K:=fun r m=>∃ (ps:List (Pd.T × Value)) (j:Nat) (G:Heap) (w:Value),Ps.chain (l.map Lx.b) s sp i0 = .ok (ps.map (·.1)) j∧i0≤j∧j<l.length∧F.le G∧(∀ p∈ps,Pd.Row G p.2 p.1.l)∧r.den=slOf w∧MemFits m [hpB G,⟨addrOf w,Pd.psC ps,.row w 39 4 ps.length⟩,Ps.pB b v l.length j]) (Kp:=fun ch m=>∃ j x G k,Ps.chain (l.map Lx.b) s sp i0 = .bad j∧l[j]?=some x∧ch=Ps.wrong x.at_∧F.le G∧MemFits m [hpB G,Ps.pB b v l.length k]) ?_ (fun r m' hq ⟨w0,hw0⟩=>?_) (fun ch m' hq=>?_)
 rotate_left
 ·obtain ⟨ps,j,G,w,h1,h2,h3,h4,h5,h6,h7⟩:=hq
  have hok:=((h7 w0 hw0).1.row (List.mem_cons_of_mem _ (List.mem_cons_self ..))).1
  have hrow:=rowF_new (F:=G) (sz:=4) (enc:=Pd.psV) hok (Pd.psC_den ps) (fun x _=>rfl)
  refine ⟨.hs w ps.length,_,h6.symm,h7.trans (MemFits.freeze (m:=[Ps.pB b v l.length j])),ps.map (·.1),j,_,w,h1,h2,h3,h4.trans addF.old,?_,by rw [List.length_map],rfl⟩
  exact Pd.row_of hrow fun p hp=>Pd.Row.mono addF.old (h5 p hp)
 ·obtain ⟨j,x,G,k,h1,h2,h3,h4,h5⟩:=hq
  exact ⟨_,h5,j,x,G,k,h1,h2,h3,h4,rfl⟩
 have c0:=hg i0 (Nat.le_refl _) hi0 F b hv
 have hn:=hl.few
 have hspec:Ps.chain (l.map Lx.b) s sp i0=match sp i0 with
  | .ok x j=>Ps.more (l.map Lx.b) s sp ((l.map Lx.b).length+1 - j) [x] j
  | .bad j=>.bad j:=by unfold Ps.chain;cases sp i0<;>rfl
 have hlen:(l.map Lx.b).length=l.length:=List.length_map ..
 rw [hlen] at hspec
 generalize Ps.chain (l.map Lx.b) s sp i0=res at *
 generalize hq0:sp i0=q0 at *
 refine ncallx_of Tryz.func236 rfl (by decide) ?_
 unfold Ps.pB at c0 ⊢
 repeat' first|(intro K Kp hK hP;(with_reducible refine gCX ?_);(refine cX [0,1] c0 rfl rfl ?_ ?_;((rintro _ _ ⟨p,j,G,u,h1,h2,h3,h4,h5,rfl,rfl⟩)<;>refine ⟨rfl,_,rfl,?_⟩);rotate_right;((rintro _ _ ⟨j,x,G,k,h1,h2,rfl,h4,rfl⟩)<;>refine ⟨rfl,?_⟩);all_goals (conv=>whnf)))|(refine sxZX ?_;(try clear hP hK Kp K);try clear hK K)|refine sxW ?_ ?_<;>intro _|(intro K Kp hK hP _;(conv=>whnf))|(intro K hK _;(conv=>whnf))
 ·refine ⟨j,x,G,k,?_,h2,rfl,h4,MemFits.pre 2 rfl⟩
  rw [hspec,h1]
 rename_i b2
 rw [h1] at hspec
 dsimp only at hspec
 refine st_autoX (α:=Heap × Value × List (Pd.T × Value) × Nat × Nat) (fun (G,w,ps,j,n)=>res=Ps.more (l.map Lx.b) s sp n (ps.map (·.1)) j∧i0≤j∧j<l.length∧l.length - j<n∧F.le G∧ps.length≤j+1∧∀ p∈ps,Pd.Row G p.2 p.1.l)
  (fun (G,w,ps,j,n)=>[.keep,.keep,.keep,.keep,.keep,.keep,.keep,.set (.sl 2 w ps.length),.keep,.keep,.keep,.drop,.drop,.drop,.drop,.drop,.drop,.drop,.drop,.keep]) (fun (G,w,ps,j,n)=>[.set (hpB G),.set (Ps.pB b v l.length j),.set ⟨addrOf w,Pd.psC ps,.row w 39 4 ps.length⟩]) (fun (G,w,ps,j,n)=>l.length - j)
  (G,.slice (some ⟨b2,0,none⟩) 1 1,[(p,u)],j,l.length+1 - j) ⟨hspec,h2,h3,by omega,h4,by simp,fun x hx=>by rw [List.mem_singleton.1 hx];exact h5⟩ ?_ ?_ ?_
 ·exact fitsGo
 ·exact MemFits.eq rfl
 (intro ⟨G1,w,ps,j1,n⟩ ⟨hres,hij,hjl,hnl,hle,hpl,hall⟩;intro K hK;(conv=>whnf);refine hK _ _ ?_;clear hK K)
 dsimp only at hres hij hjl hnl hle hpl hall ⊢
 obtain ⟨n,rfl⟩:∃ k,n=k+1:=⟨n - 1,by omega⟩
 have hx1:l[j1]?=some l[j1]:=List.getElem?_eq_getElem hjl
 have ci:=is29_c G1 v l (Ps.Toks.mono hle hv) hn b hx1 s
 have hisb:=Ps.is_b hx1 s
 have hnext:=hl.next hx1 (s:=s)
 rw [← hisb] at ci
 unfold Ps.more at hres
 have hpc:=Pd.psC_len ps
 generalize Ps.is (l.map Lx.b) j1 s=qi at *
 cases qi with
 | false =>
  rw [if_neg (by decide)] at ci hres
  repeat' first|(intro K Kp hK hP;(with_reducible refine gCX ?_);(refine NCallX.of ?_;first|refine cS [0,1] ci ?_))|(refine sxZX ?_;(try clear hP hK Kp K);try clear hK K)|refine sxW ?_ ?_<;>intro _|(intro K Kp hK hP _;(conv=>whnf))|(intro K hK _;(conv=>whnf))
  all_goals exact ⟨ps,j1,G1,w,hres,hij,hjl,hle,hall,rfl,MemFits.pick [0,2,1] (by decide) rfl⟩
 | true =>
  rw [if_pos rfl] at ci hres
  have c1:=hg (j1+1) (by omega) (hnext rfl) G1 b (Ps.Toks.mono hle hv)
  generalize hq1:sp (j1+1)=q1 at *
  unfold Ps.pB at ci c1
  repeat' first|(intro K Kp hK hP;(with_reducible refine gCX ?_);first|(refine cX [0,1] c1 rfl rfl ?_ ?_;((rintro _ _ ⟨p2,j2,G2,u2,k1,k2,k3,k4,k5,rfl,rfl⟩)<;>refine ⟨rfl,_,rfl,?_⟩);rotate_right;((rintro _ _ ⟨j2,x2,G2,k',k1,k2,rfl,k4,rfl⟩)<;>refine ⟨rfl,?_⟩);all_goals (conv=>whnf))|(refine NCallX.of ?_;first|refine cS [0,1] ci ?_))|(refine sxZX ?_;(try clear hP hK Kp K);try clear hK K)|refine sxW ?_ ?_<;>intro _|(intro K Kp hK hP _;(conv=>whnf))|(intro K hK _;(conv=>whnf))
  ·refine ⟨j2,x2,G2,k',?_,k2,rfl,hle.trans k4,MemFits.pre 2 rfl⟩
   rw [hres,k1]
  ·rename_i b3 w2
   have hpn:=Pd.psC_next ps (p2,u2)
   have hpl2:(ps++[(p2,u2)]).length=ps.length+1:=by rw [List.length_append];rfl
   rw [k1] at hres
   dsimp only at hres
   refine st_round (G2,w2,ps++[(p2,u2)],j2,n) ⟨by rw [List.map_append];exact hres,Nat.le_trans hij (Nat.le_trans (Nat.le_succ _) k2),k3,by dsimp only;omega,hle.trans k4,by dsimp only;rw [hpl2];omega,fun x hx=>?_⟩ (by show l.length - j2<l.length - j1;omega) ?_ ?_
   ·rcases List.mem_append.1 hx with hx | hx
    ·exact Pd.Row.mono k4 (hall x hx)
    ·rw [List.mem_singleton.1 hx];exact k5
   ·dsimp only
    rw [hpl2]
    exact fitsGo
   ·dsimp only
    rw [hpn,hpl2]
    exact MemFits.pre 3 rfl
theorem Ps.wrap_not {α:Type} {f:List α→α} {xs:List α} {j:Nat} (h:¬xs.length=1):Ps.wrap f (.ok xs j) = .ok (f xs) j:=by
 match xs,h with
 | [],_=>rfl
 | _::_::_,_=>rfl
theorem group26_c (v:Value) (l:List Lx.T) (hl:Ps.Good l) (sp:Nat→Ps.R Pd.T) (i0:Nat) (hi0:i0<l.length) (hg:∀ i,i0≤i→i<l.length→Ps.P26 v l 246 (sp i) i):Ps.P26 v l 237 (Ps.group (l.map Lx.b) sp i0) i0:=by
 intro F b hv
 refine NCallX.fits (K:=fun r m=>∃ p j G u,Ps.group (l.map Lx.b) sp i0 = .ok p j∧i0≤j∧j<l.length∧F.le G∧Pd.Row G u p.l∧r = .agg (Pd.cs p u)∧MemFits m [hpB G,Ps.pB b v l.length j]) (Kp:=fun ch m=>∃ j x G k,Ps.group (l.map Lx.b) sp i0 = .bad j∧l[j]?=some x∧ch=Ps.wrong x.at_∧F.le G∧MemFits m [hpB G,Ps.pB b v l.length k]) ?_ (fun r m' ⟨p,j,G,u,h1,h2,h3,h4,h5,h6,h7⟩=>⟨r,_,rfl,h7,p,j,G,u,h1,h2,h3,h4,h5,h6,rfl⟩) (fun ch m' ⟨j,x,G,k,h1,h2,h3,h4,h5⟩=>⟨_,h5,j,x,G,k,h1,h2,h3,h4,rfl⟩)
 have cc:=chain26_c v l hl Ps.wAnd 246 sp i0 hi0 hg F b hv
 have hn:=hl.few
 unfold Ps.group
 generalize Ps.chain (l.map Lx.b) Ps.wAnd sp i0=q at *
 refine ncallx_of Tryz.func237 rfl (by decide) ?_
 unfold Ps.pB at cc ⊢
 unfold Ps.wAnd at cc
 repeat' first|(intro K Kp hK hP;(with_reducible refine gCX ?_);(refine cX [0,1] cc rfl rfl ?_ ?_;((rintro _ _ ⟨xs,j,G,u,h1,h2,h3,h4,h5,rfl,rfl⟩)<;>refine ⟨rfl,_,rfl,?_⟩);rotate_right;((rintro _ _ ⟨j,x,G,k,h1,h2,rfl,h4,rfl⟩)<;>refine ⟨rfl,?_⟩);all_goals (conv=>whnf)))|(refine sxZX ?_;(try clear hP hK Kp K);try clear hK K)|refine sxW ?_ ?_<;>intro _|(intro K Kp hK hP _;(conv=>whnf))|(intro K hK _;(conv=>whnf))
 ·refine ⟨j,x,G,k,?_,h2,rfl,h4,MemFits.pre 2 rfl⟩
  rw [h1]
  rfl
 have huk:=h5.ok
 subst h1
 by_cases hone:xs.length=1
 ·obtain ⟨y,rfl⟩:=List.length_eq_one_iff.1 hone
  obtain ⟨A,cap,hr,d0,d1,d2,d3⟩:=h5.get (i:=0) (x:=y) rfl
  rw [Nat.zero_mul] at d0 d1 d2 d3
  repeat' first|((first|intro A B hA hB|intro K hK|skip);first|((with_reducible refine NIf.yes ?s ?_);(case s=>simp ;done);(conv=>whnf))|((with_reducible refine NIf.no ?s ?_);(case s=>simp ;done);(conv=>whnf)))|(refine sxZX ?_;(try clear hP hK Kp K);(try clear hK K);try clear hA hB A B)|refine sxW ?_ ?_<;>intro _|(intro K Kp hK hP _;(conv=>whnf))|(intro K hK _;(conv=>whnf))
  all_goals exact ⟨y,j,G,_,rfl,h2,h3,h4,hr,rfl,MemFits.pre 2 rfl⟩
 ·have hw:=Ps.wrap_not (f:=fun xs=>Pd.T.mk 5 0 0 xs) (j:=j) hone
  have hone2:¬(xs.length:Int)=1:=by omega
  repeat' first|((first|intro A B hA hB|intro K hK|skip);first|((with_reducible refine NIf.yes ?s ?_);(case s=>simp [hone2];done);(conv=>whnf))|((with_reducible refine NIf.no ?s ?_);(case s=>simp [hone2];done);(conv=>whnf)))|(refine sxZX ?_;(try clear hP hK Kp K);(try clear hK K);try clear hA hB A B)|refine sxW ?_ ?_<;>intro _|(intro K Kp hK hP _;(conv=>whnf))|(intro K hK _;(conv=>whnf))
  all_goals exact ⟨.mk 5 0 0 xs,j,G,u,hw,h2,h3,h4,h5,rfl,MemFits.pre 2 rfl⟩
theorem cond26_c (v:Value) (l:List Lx.T) (hl:Ps.Good l) (sp:Nat→Ps.R Pd.T) (i0:Nat) (hi0:i0<l.length) (hg:∀ i,i0≤i→i<l.length→Ps.P26 v l 237 (Ps.group (l.map Lx.b) sp i) i):Ps.P26 v l 216 (Ps.cond (l.map Lx.b) sp i0) i0:=by
 intro F b hv
 refine NCallX.fits (K:=fun r m=>∃ p j G u,Ps.cond (l.map Lx.b) sp i0 = .ok p j∧i0≤j∧j<l.length∧F.le G∧Pd.Row G u p.l∧r = .agg (Pd.cs p u)∧MemFits m [hpB G,Ps.pB b v l.length j]) (Kp:=fun ch m=>∃ j x G k,Ps.cond (l.map Lx.b) sp i0 = .bad j∧l[j]?=some x∧ch=Ps.wrong x.at_∧F.le G∧MemFits m [hpB G,Ps.pB b v l.length k]) ?_ (fun r m' ⟨p,j,G,u,h1,h2,h3,h4,h5,h6,h7⟩=>⟨r,_,rfl,h7,p,j,G,u,h1,h2,h3,h4,h5,h6,rfl⟩) (fun ch m' ⟨j,x,G,k,h1,h2,h3,h4,h5⟩=>⟨_,h5,j,x,G,k,h1,h2,h3,h4,rfl⟩)
 have cc:=chain26_c v l hl Ps.wOr 237 (Ps.group (l.map Lx.b) sp) i0 hi0 hg F b hv
 have hn:=hl.few
 unfold Ps.cond
 generalize Ps.chain (l.map Lx.b) Ps.wOr (Ps.group (l.map Lx.b) sp) i0=q at *
 refine ncallx_of Tryz.func216 rfl (by decide) ?_
 unfold Ps.pB at cc ⊢
 unfold Ps.wOr at cc
 repeat' first|(intro K Kp hK hP;(with_reducible refine gCX ?_);(refine cX [0,1] cc rfl rfl ?_ ?_;((rintro _ _ ⟨xs,j,G,u,h1,h2,h3,h4,h5,rfl,rfl⟩)<;>refine ⟨rfl,_,rfl,?_⟩);rotate_right;((rintro _ _ ⟨j,x,G,k,h1,h2,rfl,h4,rfl⟩)<;>refine ⟨rfl,?_⟩);all_goals (conv=>whnf)))|(refine sxZX ?_;(try clear hP hK Kp K);try clear hK K)|refine sxW ?_ ?_<;>intro _|(intro K Kp hK hP _;(conv=>whnf))|(intro K hK _;(conv=>whnf))
 ·refine ⟨j,x,G,k,?_,h2,rfl,h4,MemFits.pre 2 rfl⟩
  rw [h1]
  rfl
 have huk:=h5.ok
 subst h1
 by_cases hone:xs.length=1
 ·obtain ⟨y,rfl⟩:=List.length_eq_one_iff.1 hone
  obtain ⟨A,cap,hr,d0,d1,d2,d3⟩:=h5.get (i:=0) (x:=y) rfl
  rw [Nat.zero_mul] at d0 d1 d2 d3
  repeat' first|((first|intro A B hA hB|intro K hK|skip);first|((with_reducible refine NIf.yes ?s ?_);(case s=>simp ;done);(conv=>whnf))|((with_reducible refine NIf.no ?s ?_);(case s=>simp ;done);(conv=>whnf)))|(refine sxZX ?_;(try clear hP hK Kp K);(try clear hK K);try clear hA hB A B)|refine sxW ?_ ?_<;>intro _|(intro K Kp hK hP _;(conv=>whnf))|(intro K hK _;(conv=>whnf))
  all_goals exact ⟨y,j,G,_,rfl,h2,h3,h4,hr,rfl,MemFits.pre 2 rfl⟩
 ·have hw:=Ps.wrap_not (f:=fun xs=>Pd.T.mk 6 0 0 xs) (j:=j) hone
  have hone2:¬(xs.length:Int)=1:=by omega
  repeat' first|((first|intro A B hA hB|intro K hK|skip);first|((with_reducible refine NIf.yes ?s ?_);(case s=>simp [hone2];done);(conv=>whnf))|((with_reducible refine NIf.no ?s ?_);(case s=>simp [hone2];done);(conv=>whnf)))|(refine sxZX ?_;(try clear hP hK Kp K);(try clear hK K);try clear hA hB A B)|refine sxW ?_ ?_<;>intro _|(intro K Kp hK hP _;(conv=>whnf))|(intro K hK _;(conv=>whnf))
  all_goals exact ⟨.mk 6 0 0 xs,j,G,u,hw,h2,h3,h4,h5,rfl,MemFits.pre 2 rfl⟩
end Go.Proofs.YtmehinfgdcmmjaaGreatDoor
namespace Go.Proofs.YtmehinfgdcmmjaaGreatDoor
open Go.Sx
set_option maxRecDepth 20000
set_option linter.unusedSimpArgs false
set_option linter.unusedVariables false
set_option maxHeartbeats 4000000
set_option linter.unusedVariables false
namespace Ps
theorem field_b {l:List Lx.T} (hl:Good l) {i many:Nat} {x:Lx.T} (hx:l[i]?=some x):((if x.k=1 then idx (words.take many) x.s else -1) = -1∧field (l.map Lx.b) i many=none)∨∃ f:Nat,(if x.k=1 then idx (words.take many) x.s else -1)=f∧field (l.map Lx.b) i many=some f∧i+1<l.length:=by
 unfold field idx
 rw [tk_b hx]
 show (_∧(if x.k=1 then (words.take many).findIdx? (fun w=>decide (w=x.s)) else none)=none)∨∃ f:Nat,_∧(if x.k=1 then (words.take many).findIdx? (fun w=>decide (w=x.s)) else none)=some f∧_
 by_cases h:x.k=1
 ·rw [if_pos h,if_pos h]
  cases (words.take many).findIdx? (fun w=>decide (w=x.s)) with
  | none=>exact .inl ⟨rfl,rfl⟩
  | some f=>exact .inr ⟨f,rfl,rfl,hl.end_ i x hx (by omega)⟩
 ·rw [if_neg h,if_neg h]
  exact .inl ⟨rfl,rfl⟩
theorem assign_none {l:List Lx.T} {i many:Nat} {sign:List UInt8} (h:field (l.map Lx.b) i many=none):assign (l.map Lx.b) many sign i = .bad i:=by
 unfold assign
 rw [h]
theorem assign_some {l:List Lx.T} {i many f:Nat} {sign:List UInt8} (h:field (l.map Lx.b) i many=some f):assign (l.map Lx.b) many sign i=if is (l.map Lx.b) (i+1) sign=true then (if (tk (l.map Lx.b) (i+2)).k=2 then .ok ((f:Int),(tk (l.map Lx.b) (i+2)).n) (i+3) else .bad (i+2)) else .bad (i+1):=by
 unfold assign
 rw [h]
end Ps
theorem part29_c (v:Value) (l:List Lx.T) (hl:Ps.Good l):∀ (n i:Nat),l.length - i≤n→i<l.length→Ps.P26 v l 246 (Ps.part (l.map Lx.b) n i) i
 | 0,i,h0,h1=>by omega
 | n+1,i,hni,hil=>by
  intro F b hv
  refine NCallX.fits (K:=fun r m=>∃ p j G u,Ps.part (l.map Lx.b) (n+1) i = .ok p j∧i≤j∧j<l.length∧F.le G∧Pd.Row G u p.l∧r.den=(AV.agg (Pd.cs p u)).den∧MemFits m [hpB G,Ps.pB b v l.length j]) (Kp:=fun ch m=>∃ j x G k,Ps.part (l.map Lx.b) (n+1) i = .bad j∧l[j]?=some x∧ch=Ps.wrong x.at_∧F.le G∧MemFits m [hpB G,Ps.pB b v l.length k]) ?_ (fun r m' ⟨p,j,G,u,h1,h2,h3,h4,h5,h6,h7⟩=>⟨_,_,h6.symm,h7,p,j,G,u,h1,h2,h3,h4,h5,rfl,rfl⟩) (fun ch m' ⟨j,x,G,k,h1,h2,h3,h4,h5⟩=>⟨_,h5,j,x,G,k,h1,h2,h3,h4,rfl⟩)
  have hn:=hl.few
  have hx:l[i]?=some l[i]:=List.getElem?_eq_getElem hil
  have hih:∀ i',i+1≤i'→i'<l.length→Ps.P26 v l 246 (Ps.part (l.map Lx.b) n i') i':=fun i' h1 h2=>part29_c v l hl n i' (by omega) h2
  have hic:=fun h=>cond26_c v l hl (Ps.part (l.map Lx.b) n) (i+1) h fun i' h1 h2=>group26_c v l hl (Ps.part (l.map Lx.b) n) i' h2 fun i'' h3 h4=>hih i'' (by omega) h4
  have c1:=is29_c F v l hv hn b hx Ps.wTrue
  have c2:=is29_c F v l hv hn b hx Ps.wFalse
  have c3:=is29_c F v l hv hn b hx Ps.wNot
  have c4:=is29_c F v l hv hn b hx Ps.wOpen
  have cf:=field29_c F v l hv hn b (many:=6) (by decide) hx
  have hfb:=Ps.field_b hl (many:=6) hx
  have cfl:=fail29_c F v l hv hn b hx
  rw [← Ps.is_b hx] at c1 c2 c3 c4
  have n1:=fun s=>hl.next hx (s:=s)
  have hspec:Ps.part (l.map Lx.b) (n+1) i=if Ps.is (l.map Lx.b) i Ps.wTrue=true then .ok (.mk 1 0 0 []) (i+1)
   else if Ps.is (l.map Lx.b) i Ps.wFalse=true then .ok (.mk 2 0 0 []) (i+1)
   else if Ps.is (l.map Lx.b) i Ps.wNot=true then match Ps.part (l.map Lx.b) n (i+1) with
    | .ok x j=>.ok (.mk 4 0 0 [x]) j
    | .bad j=>.bad j
   else if Ps.is (l.map Lx.b) i Ps.wOpen=true then Ps.shut (l.map Lx.b) (Ps.cond (l.map Lx.b) (Ps.part (l.map Lx.b) n) (i+1))
   else match Ps.assign (l.map Lx.b) 6 Ps.wEq i with
    | .ok (f,v) j=>.ok (.mk 3 f v []) j
    | .bad j=>.bad j:=by
   rw [Ps.part]
   split
   ·rfl
   split
   ·rfl
   split
   ·cases Ps.part (l.map Lx.b) n (i+1)<;>rfl
   split
   ·rfl
   ·rcases Ps.assign (l.map Lx.b) 6 Ps.wEq i with ⟨⟨f,v⟩,j⟩ | j<;>rfl
  have m1:=n1 Ps.wTrue
  have m2:=n1 Ps.wFalse
  have m3:=n1 Ps.wNot
  have m4:=n1 Ps.wOpen
  generalize Ps.part (l.map Lx.b) (n+1) i=res at *
  generalize Ps.is (l.map Lx.b) i Ps.wTrue=q1 at *
  generalize Ps.is (l.map Lx.b) i Ps.wFalse=q2 at *
  generalize Ps.is (l.map Lx.b) i Ps.wNot=q3 at *
  generalize Ps.is (l.map Lx.b) i Ps.wOpen=q4 at *
  unfold Ps.pB at c1 c2 c3 c4 cf cfl ⊢
  unfold Ps.wTrue at c1
  unfold Ps.wFalse at c2
  unfold Ps.wNot at c3
  unfold Ps.wOpen at c4
  refine ncallx_of Tryz.func246 rfl (by decide) ?_
  cases q1 with
  | true =>
   rw [if_pos rfl] at c1 hspec
   repeat' first|(intro K Kp hK hP;(with_reducible refine gCX ?_);(refine NCallX.of ?_;first|refine cS [0,1] c1 ?_))|(refine sxZX ?_;(try clear hP hK Kp K);try clear hK K)|refine sxW ?_ ?_<;>intro _|(intro K Kp hK hP _;(conv=>whnf))|(intro K hK _;(conv=>whnf))
   all_goals exact ⟨_,i+1,F,.slice none 0 0,hspec,by omega,m1 rfl,F.le_refl,RowF.nil,rfl,MemFits.pre 2 rfl⟩
  | false =>
  rw [if_neg (by decide)] at c1 hspec
  cases q2 with
  | true =>
   rw [if_pos rfl] at c2 hspec
   repeat' first|(intro K Kp hK hP;(with_reducible refine gCX ?_);(refine NCallX.of ?_;first|refine cS [0,1] c1 ?_|refine cS [0,1] c2 ?_))|(refine sxZX ?_;(try clear hP hK Kp K);try clear hK K)|refine sxW ?_ ?_<;>intro _|(intro K Kp hK hP _;(conv=>whnf))|(intro K hK _;(conv=>whnf))
   all_goals exact ⟨_,i+1,F,.slice none 0 0,hspec,by omega,m2 rfl,F.le_refl,RowF.nil,rfl,MemFits.pre 2 rfl⟩
  | false =>
  rw [if_neg (by decide)] at c2 hspec
  cases q3 with
  | true =>
   rw [if_pos rfl] at c3 hspec
   have cp:=hih (i+1) (Nat.le_refl _) (m3 rfl) F b hv
   generalize Ps.part (l.map Lx.b) n (i+1)=qq at *
   unfold Ps.pB at cp
   repeat' first|(intro K Kp hK hP;(with_reducible refine gCX ?_);first|(refine cX [0,1] cp rfl rfl ?_ ?_;((rintro _ _ ⟨p,j,G,u,h1,h2,h3,h4,h5,rfl,rfl⟩)<;>refine ⟨rfl,_,rfl,?_⟩);rotate_right;((rintro _ _ ⟨j,x,G,k,h1,h2,rfl,h4,rfl⟩)<;>refine ⟨rfl,?_⟩);all_goals (conv=>whnf))|(refine NCallX.of ?_;first|refine cS [0,1] c1 ?_|refine cS [0,1] c2 ?_|refine cS [0,1] c3 ?_))|(refine sxZX ?_;(try clear hP hK Kp K);try clear hK K)|refine sxW ?_ ?_<;>intro _|(intro K Kp hK hP _;(conv=>whnf))|(intro K hK _;(conv=>whnf))
   ·refine ⟨j,x,G,k,?_,h2,rfl,h4,MemFits.pre 2 rfl⟩
    rw [hspec,h1]
   ·rename_i b1 b2
    have hok:SlOk (.slice (some ⟨b2,0,none⟩) 1 1) [(p,u)].length:=⟨_,_,rfl,Nat.le_refl _,fun h=>by cases h⟩
    have hcs:denL [.int .i64 p.k,.int .i64 p.f,.int .i64 p.v,.hs u p.l.length]=[(p,u)].flatMap Pd.psV:=rfl
    have hrow:=rowF_new (F:=G) (sz:=4) (enc:=Pd.psV) (l:=[(p,u)]) hok hcs (fun x _=>rfl)
    refine ⟨.mk 4 0 0 [p],j,addF G ⟨b2,0,none⟩ _,.slice (some ⟨b2,0,none⟩) 1 1,by rw [hspec,h1],by omega,h3,h4.trans addF.old,Pd.row_of hrow fun y hy=>?_,rfl,(MemFits.pick (m':=[hpB G,_,Ps.pB b v l.length j]) [0,3,1] (by decide) rfl).trans (MemFits.freeze (m:=[Ps.pB b v l.length j]))⟩
    rw [List.mem_singleton.1 hy]
    exact Pd.Row.mono addF.old h5
  | false =>
  rw [if_neg (by decide)] at c3 hspec
  have cm:=fun G (h:F.le G) j (hj:j<l.length) s=>must29_c G v l (Ps.Toks.mono h hv) hn b (List.getElem?_eq_getElem hj) s
  have isj:=fun j (hj:j<l.length) s=>Ps.is_b (List.getElem?_eq_getElem hj) s
  have nxj:=fun j (hj:j<l.length) s=>hl.next (List.getElem?_eq_getElem hj) (s:=s)
  unfold Ps.pB at cm
  cases q4 with
  | true =>
   rw [if_pos rfl] at c4 hspec
   have cp:=hic (m4 rfl) F b hv
   generalize Ps.cond (l.map Lx.b) (Ps.part (l.map Lx.b) n) (i+1)=qq at *
   unfold Ps.pB at cp
   repeat' first|(intro K Kp hK hP;(with_reducible refine gCX ?_);first|(refine cX [0,1] cp rfl rfl ?_ ?_;((rintro _ _ ⟨p,j,G,u,h1,h2,h3,h4,h5,rfl,rfl⟩)<;>refine ⟨rfl,_,rfl,?_⟩);rotate_right;((rintro _ _ ⟨j,x,G,k,h1,h2,rfl,h4,rfl⟩)<;>refine ⟨rfl,?_⟩);all_goals (conv=>whnf))|(refine cX [0,1] (cm G h4 j h3 [41]) rfl rfl ?_ ?_;((rintro _ _ ⟨k1,rfl,rfl⟩)<;>refine ⟨rfl,_,rfl,?_⟩);rotate_right;((rintro _ _ ⟨k1,rfl,rfl⟩)<;>refine ⟨rfl,?_⟩);all_goals (conv=>whnf))|(refine NCallX.of ?_;first|refine cS [0,1] c1 ?_|refine cS [0,1] c2 ?_|refine cS [0,1] c3 ?_|refine cS [0,1] c4 ?_))|(refine sxZX ?_;(try clear hP hK Kp K);try clear hK K)|refine sxW ?_ ?_<;>intro _|(intro K Kp hK hP _;(conv=>whnf))|(intro K hK _;(conv=>whnf))
   ·refine ⟨j,x,G,k,?_,h2,rfl,h4,MemFits.pre 2 rfl⟩
    rw [hspec,h1]
    rfl
   ·refine ⟨j,_,G,j,?_,List.getElem?_eq_getElem h3,rfl,h4,MemFits.pre 2 rfl⟩
    rw [← isj j h3] at k1
    rw [hspec,h1]
    exact if_neg (by rw [show Ps.is (l.map Lx.b) j Ps.wShut=false from k1];decide)
   ·rw [← isj j h3] at k1
    refine ⟨p,j+1,G,u,?_,by omega,nxj j h3 _ k1,h4,h5,rfl,MemFits.pre 2 rfl⟩
    rw [hspec,h1]
    exact if_pos k1
  | false =>
   rw [if_neg (by decide)] at c4 hspec
   have cnum:=fun j (hj:j<l.length)=>number29_c F v l hv hn b (List.getElem?_eq_getElem hj)
   have tkj:=fun j (hj:j<l.length)=>Ps.tk_b (List.getElem?_eq_getElem hj)
   unfold Ps.pB at cnum
   rcases hfb with ⟨hq,hf⟩ | ⟨f,hq,hf,h1⟩
   ·rw [hq] at cf
    rw [Ps.assign_none hf] at hspec
    repeat' first|(intro K Kp hK hP;(with_reducible refine gCX ?_);first|(refine cX [0,1] cfl rfl rfl ?_ ?_;((rintro _ _ ⟨⟩)<;>refine ⟨rfl,_,rfl,?_⟩);rotate_right;((rintro _ _ ⟨rfl,rfl⟩)<;>refine ⟨rfl,?_⟩);all_goals (conv=>whnf))|(refine NCallX.of ?_;first|refine cS [0,1] c1 ?_|refine cS [0,1] c2 ?_|refine cS [0,1] c3 ?_|refine cS [0,1] c4 ?_|refine cS [0,1] cf ?_))|(refine sxZX ?_;(try clear hP hK Kp K);try clear hK K)|refine sxW ?_ ?_<;>intro _|(intro K Kp hK hP _;(conv=>whnf))|(intro K hK _;(conv=>whnf))
    all_goals exact ⟨i,_,F,i,hspec,hx,rfl,F.le_refl,MemFits.pre 2 rfl⟩
   ·rw [hq,if_pos (by omega)] at cf
    rw [Ps.assign_some hf] at hspec
    have hf6:f≤6:=by
     have:=(List.findIdx?_eq_some_iff_getElem.1 (show (Ps.words.take 6).findIdx? _=some f from by
      unfold Ps.field at hf
      split at hf
      ·exact hf
      ·cases hf)).1
     rw [List.length_take] at this
     omega
    have c5:=cm F F.le_refl (i+1) h1 [61]
    have c6:=fun h=>cnum (i+2) h
    repeat' first|(intro K Kp hK hP;(with_reducible refine gCX ?_);first|(refine cX [0,1] c5 rfl rfl ?_ ?_;((rintro _ _ ⟨k1,rfl,rfl⟩)<;>refine ⟨rfl,_,rfl,?_⟩);rotate_right;((rintro _ _ ⟨k1,rfl,rfl⟩)<;>refine ⟨rfl,?_⟩);all_goals (conv=>whnf))|(refine cX [0,1] (c6 (nxj (i+1) h1 [61] ((isj (i+1) h1 [61]).trans k1))) rfl rfl ?_ ?_;((rintro _ _ ⟨k2,rfl,rfl⟩)<;>refine ⟨rfl,_,rfl,?_⟩);rotate_right;((rintro _ _ ⟨k2,rfl,rfl⟩)<;>refine ⟨rfl,?_⟩);all_goals (conv=>whnf))|(refine NCallX.of ?_;first|refine cS [0,1] c1 ?_|refine cS [0,1] c2 ?_|refine cS [0,1] c3 ?_|refine cS [0,1] c4 ?_|refine cS [0,1] cf ?_))|(refine sxZX ?_;(try clear hP hK Kp K);try clear hK K)|refine sxW ?_ ?_<;>intro _|(intro K Kp hK hP _;(conv=>whnf))|(intro K hK _;(conv=>whnf))
    all_goals first | (exfalso;omega) | skip
    ·refine ⟨i+1,_,F,i+1,?_,List.getElem?_eq_getElem h1,rfl,F.le_refl,MemFits.pre 2 rfl⟩
     rw [← isj (i+1) h1] at k1
     rw [hspec,if_neg (by rw [show Ps.is (l.map Lx.b) (i+1) Ps.wEq=false from k1];decide)]
    ·have h2:=nxj (i+1) h1 [61] ((isj (i+1) h1 [61]).trans k1)
     refine ⟨i+2,_,F,i+2,?_,List.getElem?_eq_getElem h2,rfl,F.le_refl,MemFits.pre 2 rfl⟩
     rw [← isj (i+1) h1] at k1
     rw [hspec,if_pos (show Ps.is (l.map Lx.b) (i+1) Ps.wEq=true from k1),tkj (i+2) h2,if_neg (show ¬(Lx.b (l[i+2]'h2)).k=2 from k2)]
    ·have h2:=nxj (i+1) h1 [61] ((isj (i+1) h1 [61]).trans k1)
     refine ⟨.mk 3 f (l[i+2]'h2).n [],i+3,F,.slice none 0 0,?_,by omega,hl.end_ (i+2) _ (List.getElem?_eq_getElem h2) (by rw [k2];decide),F.le_refl,RowF.nil,rfl,MemFits.pre 2 rfl⟩
     rw [← isj (i+1) h1] at k1
     rw [hspec,if_pos (show Ps.is (l.map Lx.b) (i+1) Ps.wEq=true from k1),tkj (i+2) h2,if_pos (show (Lx.b (l[i+2]'h2)).k=2 from k2)]
     rfl
end Go.Proofs.YtmehinfgdcmmjaaGreatDoor
