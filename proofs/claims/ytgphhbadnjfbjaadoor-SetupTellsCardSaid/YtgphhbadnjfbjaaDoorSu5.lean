import Derived.Test.YtgphhbadnjfbjaaDoorSu4
import Derived.Test.YtgphhbadnjfbjaaDoorSxXK
namespace Go.Proofs.YtgphhbadnjfbjaaDoor
open Go.Sx
set_option maxRecDepth 20000
set_option linter.unusedSimpArgs false
set_option linter.unusedVariables false
set_option maxHeartbeats 8000000
set_option linter.unusedVariables false
namespace Su
def Uni {α:Type} (enc:α→List Value) (F:Heap) (b:Nat) (tx:List UInt8) (no:Nat) (q:I (List α)) (r:AV) (m:List Blk):Prop :=
  ∃ (ok:Bool) (xs:List α) (t2:List UInt8) (no2:Nat) (G:Heap) (v:Value),(F.le G∧RowF G 1 (fun x us=>us=enc x) v xs∧SlOk v xs.length∧no2+t2.length≤no+tx.length∧t2.length≤tx.length∧(ok=true→q = .ok xs (sp 10 t2)∧t2.length<tx.length∧no2=no+1)∧(ok=false→q = .no∧t2=tx∧no2=no)) ∧
    r = .tup [.hs v xs.length,.bool ok]∧m=[hpB G,rB b t2 no2]
theorem uni_ints {F:Heap} {b:Nat} {tx:List UInt8} {no:Nat} {q:I (List Int)} {r:AV} {m:List Blk} (h:GotInts F b tx no q r m):Uni intV F b tx no q r m:=by
  rcases h with ⟨h1,G,h2,h3,h4⟩ | ⟨xs,t2,G,v,h1,h2,h3,h4,h5,h6⟩
  · exact ⟨false,[],tx,no,G,.slice none 0 0,⟨h2,RowF.nil,SlOk.nil,Nat.le_refl _,Nat.le_refl _,(fun h=>by cases h),fun _=>⟨h1,rfl,rfl⟩⟩,h3,h4⟩
  · exact ⟨true,xs,t2,no+1,G,v,⟨h3,h4,h4.ok,by omega,by omega,fun _=>⟨h1,h2,rfl⟩,fun h=>by cases h⟩,h5,h6⟩
theorem uni_sets {F:Heap} {b:Nat} {tx:List UInt8} {no:Nat} {q:I (List Nat)} {r:AV} {m:List Blk} (h:GotSets F b tx no q r m):Uni hexV F b tx no q r m:=by
  rcases h with ⟨h1,G,h2,h3,h4⟩ | ⟨xs,t2,G,v,h1,h2,h3,h4,h5,h6⟩
  · exact ⟨false,[],tx,no,G,.slice none 0 0,⟨h2,RowF.nil,SlOk.nil,Nat.le_refl _,Nat.le_refl _,(fun h=>by cases h),fun _=>⟨h1,rfl,rfl⟩⟩,h3,h4⟩
  · exact ⟨true,xs,t2,no+1,G,v,⟨h3,h4,h4.ok,by omega,by omega,fun _=>⟨h1,h2,rfl⟩,fun h=>by cases h⟩,h5,h6⟩
theorem cut_rest {w:List UInt8} {ls p r:List (List UInt8)} (h:cut w ls=some (p,r)):r.length+1=ls.length:=by
  unfold cut at h
  split at h
  · split at h
    · cases h;simp
    · cases h
  · cases h
theorem ints_rest {w:List UInt8} {m:Option Nat} {ls:List (List UInt8)} {xs:List Int} {r:List (List UInt8)} (h:ints w m ls = .ok xs r):r.length+1=ls.length:=by
  unfold ints at h
  split at h
  · cases h
  · rename_i p r' hc
    split at h
    · split at h
      · cases h
      · cases h;exact cut_rest hc
    · cases h
theorem sets_rest {ls:List (List UInt8)} {xs:List Nat} {r:List (List UInt8)} (h:sets ls = .ok xs r):r.length+1=ls.length:=by
  unfold sets at h
  split at h
  · cases h
  · rename_i p r' hc
    split at h
    · cases h
    · cases h;exact cut_rest hc
def pend {α β:Type} (one:List L→I α) (f:α→β) (k:Nat) (acc:List β) (ok:Bool) (x:α) (ls:List L) (n:Nat):M (List β) :=
  if ok=true then many one f k (acc++[f x]) ls n else .ok acc ls n
theorem pend_ask {α β:Type} {one:List L→I α} {f:α→β} {k:Nat} {acc:List β} {ls:List L} {n:Nat}:many one f (k+1) acc ls n=match one ls with
    | .no=>.ok acc ls n
    | .bad=>.bad n
    | .ok x r=>many one f k (acc++[f x]) r (n+1):=by
  rw [many]
  cases one ls<;>rfl
theorem ask_uni {α β:Type} {one:List L→I α} {f:α→β} {k:Nat} {acc:List β} {t t3:List UInt8} {n n3:Nat} {ok:Bool} {x:α} {Z:Prop} (hrest:∀ x r,one (sp 10 t) = .ok x r→r.length+1=(sp 10 t).length) (hk:(sp 10 t).length≤k)
    (h1:ok=true→one (sp 10 t) = .ok x (sp 10 t3)∧Z∧n3=n+1) (h2:ok=false→one (sp 10 t) = .no∧t3=t∧n3=n) :
    ∃ k',many one f k acc (sp 10 t) n=pend one f k' acc ok x (sp 10 t3) n3∧(ok=true→(sp 10 t3).length≤k'):=by
  have hne:=sp_ne 10 t
  obtain ⟨j,rfl⟩:∃ j,k=j+1:=⟨k - 1,by have:=List.length_pos_iff.2 hne;omega⟩
  rw [pend_ask]
  cases ok with
  | true =>
    obtain ⟨e,_,rfl⟩:=h1 rfl
    have:=hrest _ _ e
    exact ⟨j,by rw [e];rfl,fun _=>by omega⟩
  | false =>
    obtain ⟨e,rfl,rfl⟩:=h2 rfl
    exact ⟨j,by rw [e];rfl,fun h=>by cases h⟩
theorem ask_bad {α β:Type} {one:List L→I α} {f:α→β} {k:Nat} {acc:List β} {t:List UInt8} {n:Nat} (hk:(sp 10 t).length≤k) (h:one (sp 10 t) = .bad):many one f k acc (sp 10 t) n = .bad n:=by
  have hne:=sp_ne 10 t
  obtain ⟨j,rfl⟩:∃ j,k=j+1:=⟨k - 1,by have:=List.length_pos_iff.2 hne;omega⟩
  rw [pend_ask,h]
theorem six {l:List Int} (h:l.length=6):∃ a b c d e f,l=[a,b,c,d,e,f]:=by
  match l,h with
  | [a,b,c,d,e,f],_=>exact ⟨a,b,c,d,e,f,rfl⟩
theorem two {l:List Int} (h:l.length=2):∃ a b,l=[a,b]:=by
  match l,h with
  | [a,b],_=>exact ⟨a,b,rfl⟩
theorem int_at {G:Heap} {v:Value} {l:List Int} (h:Ints G v l) {i:Nat} {x:Int} (hx:l[i]?=some x):G.c ((addrOf v).add i) (.int .i64 x):=by
  obtain ⟨us,e1,_,e2⟩:=h.at_ i x hx
  subst e1
  have:=e2.1
  rwa [Nat.mul_one] at this
def lkC (x:Lk):List AV:=[.int .i64 x.a,.int .i64 x.pa,.int .i64 x.b,.int .i64 x.pb,.int .i64 x.lo,.int .i64 x.hi]
def lkV (x:Lk):List Value:=[.int .i64 x.a,.int .i64 x.pa,.int .i64 x.b,.int .i64 x.pb,.int .i64 x.lo,.int .i64 x.hi]
def hsC (x:Hs):List AV:=[.int .i64 x.at_,.int .i64 x.port]
def hsV (x:Hs):List Value:=[.int .i64 x.at_,.int .i64 x.port]
def wtC (x:List Nat × Value):List AV:=[.hs x.2 x.1.length]
def wtV (x:List Nat × Value):List Value:=denL (wtC x)
theorem flat_den {α:Type} {C:α→List AV} {V:α→List Value} (h:∀ x,denL (C x)=V x) (l:List α):denL (l.flatMap C)=l.flatMap V:=by
  induction l with
  | nil=>rfl
  | cons x l ih=>rw [List.flatMap_cons,List.flatMap_cons,denL_append,h,ih]
theorem flat_len {α:Type} {C:α→List AV} {k:Nat} (h:∀ x,(C x).length=k) (l:List α):(l.flatMap C).length=l.length*k:=by
  induction l with
  | nil=>simp
  | cons x l ih=>rw [List.flatMap_cons,List.length_append,h,ih,List.length_cons,Nat.succ_mul];omega
abbrev Links (G:Heap) (v:Value) (l:List Lk):Prop:=RowF G 6 (fun x us=>us=lkV x) v l
abbrev Hosts (G:Heap) (v:Value) (l:List Hs):Prop:=RowF G 2 (fun x us=>us=hsV x) v l
def Wts (G:Heap) (v:Value) (l:List (List Nat)):Prop:=∃ ps:List (List Nat × Value),l=ps.map (·.1)∧RowF G 1 (fun x us=>us=wtV x) v ps∧∀ p∈ps,Hexs G p.2 p.1
def cs (c:Cfg) (lv hv wv sv:Value):List AV:=[.int .i64 c.sw,.hs lv c.links.length,.hs hv c.hosts.length,.hs wv c.weights.length,.hs sv c.starts.length,.int .i64 c.rate,.int .i64 c.room,.int .i64 c.wide,.int .i64 c.lead,.int .i64 c.margin,.int .i64 c.retry]
structure At (G:Heap) (c:Cfg) (lv hv wv sv:Value):Prop where
  l:Links G lv c.links
  h:Hosts G hv c.hosts
  w:Wts G wv c.weights
  s:Ints G sv c.starts
end Su
theorem rest40_c (j k b3:Nat) (x0 x1 x2 x3 x4 x5 x6 x7 x8 x9 x10:AV):NCall Tryd.prog 26 [.ptr 0 ⟨b3,0,none⟩ 0] [⟨⟨b3,0,none⟩,[x0,x1,x2,x3,x4,x5,x6,x7,x8,x9,x10],.var 29⟩] fun r m=>∃ g,r = .sl k (.slice (some ⟨g,0,none⟩) 6 6) 6∧m=[⟨⟨b3,0,none⟩,[x0,x1,x2,x3,x4,x5,x6,x7,x8,x9,x10],.var 29⟩,⟨⟨g,0,none⟩,[.ptr j ⟨b3,0,none⟩ 5,.ptr j ⟨b3,0,none⟩ 6,.ptr j ⟨b3,0,none⟩ 7,.ptr j ⟨b3,0,none⟩ 8,.ptr j ⟨b3,0,none⟩ 9,.ptr j ⟨b3,0,none⟩ 10],.row (.slice (some ⟨g,0,none⟩) 6 6) 73 1 6⟩]:=by
  refine NCall.fits (K:=fun r m=>∃ g,r.den=(AV.sl k (.slice (some ⟨g,0,none⟩) 6 6) 6).den∧MemFits m [⟨⟨b3,0,none⟩,[x0,x1,x2,x3,x4,x5,x6,x7,x8,x9,x10],.var 29⟩,⟨⟨g,0,none⟩,[.ptr j ⟨b3,0,none⟩ 5,.ptr j ⟨b3,0,none⟩ 6,.ptr j ⟨b3,0,none⟩ 7,.ptr j ⟨b3,0,none⟩ 8,.ptr j ⟨b3,0,none⟩ 9,.ptr j ⟨b3,0,none⟩ 10],.row (.slice (some ⟨g,0,none⟩) 6 6) 73 1 6⟩]) ?_ fun r m' ⟨g,h1,h2⟩=>⟨_,_,h1.symm,h2,g,rfl,rfl⟩
  refine ncall_of Tryd.func26 rfl (by decide) ?_
  (repeat' (first|(with_reducible first|(refine hK _ _ ?_;clear hK K)|(refine hK _ ?_;clear hK K))|((with_reducible refine z25 ?_);intro K hK;(conv=>whnf))|(with_reducible refine z0 ?_)|((first|(with_reducible refine NN.a5 ?_)|((with_reducible refine NH.mk ?s ?_);case s=>(and_intros<;>first|((with_reducible refine gLen ?_);rfl)|omega)))<;>(conv=>whnf))|((with_reducible refine gNO ?_);(first|(refine z36 rfl (by kernel_rfl) ?_;intro K hK;(conv=>whnf))|refine z38 rfl (by kernel_rfl) ?_|refine z39 rfl rfl (by kernel_rfl) (by intro h;cases h) ?_))|((with_reducible refine gNE ?_);(first|(refine z40 ?_ ?_;(intro K hK;(conv=>whnf)))|exact z42))|((with_reducible refine gX ?_);(first|refine z35 (by kernel_rfl) _ rfl ?_|(with_reducible first|refine z3 ?_|refine z4 ?_|refine z8 ?_)))|(with_reducible first|refine z1 ?_|refine z2 ?_)|((with_reducible refine gR ?_);(refine z31 rfl ?_;intro K hK;(conv=>whnf)))|((with_reducible refine gF ?_);(refine z33 rfl ?_;intro K hK;(conv=>whnf)))|((intro _;skip)<;>(conv=>whnf))))
  all_goals (rename_i g;exact ⟨g,rfl,MemFits.congr rfl⟩)
theorem config40_c (F:Heap) (hT:TabF F) (hE:ErrF F) (b:Nat) (tx:List UInt8) (hs:tx.length≤1000000) :
    NCallX Tryd.prog 16 [.ptr 1 ⟨b,0,none⟩ 0] [hpB F,Su.rB b tx 1]
      (fun r m=>∃ c ls n G lv hv wv sv t2 n2,Su.parse (Su.sp 10 tx) = .ok c ls n∧F.le G∧Su.At G c lv hv wv sv∧r = .agg (Su.cs c lv hv wv sv)∧m=[hpB G,Su.rB b t2 n2])
      fun ch m=>∃ n,Su.parse (Su.sp 10 tx) = .bad n∧ch=Su.wrong n∧∃ G t2 n2,F.le G∧m=[hpB G,Su.rB b t2 n2]:=by
  refine NCallX.know (K:=fun r m=>∃ (c:Su.Cfg) (ls:List (List UInt8)) (n:Nat) (G:Heap) (u w y sv:Value) (t2:List UInt8) (n2:Nat) (ps:List (List Nat × Value)),Su.parse (Su.sp 10 tx) = .ok c ls n∧F.le G∧c.weights=ps.map (·.1)∧(∀ p∈ps,Su.Hexs G p.2 p.1)∧Su.Ints G sv c.starts∧r.den=(AV.agg (Su.cs c u w y sv)).den∧MemFits m [hpB G,⟨addrOf u,c.links.flatMap Su.lkC,.row u 68 6 c.links.length⟩,⟨addrOf w,c.hosts.flatMap Su.hsC,.row w 70 2 c.hosts.length⟩,⟨addrOf y,ps.flatMap Su.wtC,.row y 42 1 ps.length⟩,Su.rB b t2 n2])
    (Kp:=fun ch m=>∃ n,Su.parse (Su.sp 10 tx) = .bad n∧ch=Su.wrong n∧∃ G t2 n2,F.le G∧MemFits m [hpB G,Su.rB b t2 n2]) ?_ (fun r m' ⟨c,ls,n,G,u,w,y,sv,t2,n2,ps,h1,h2,h3,h4,h5,h6,h7⟩ ⟨w0,hw0⟩=>?_) (fun ch m' ⟨n,h1,h2,G,t2,n2,h3,h4⟩=>⟨_,h4,n,h1,h2,G,t2,n2,h3,rfl⟩)
  rotate_left
  · have hm:=(h7 w0 hw0).1
    have ku:=(hm.row (List.mem_cons_of_mem _ (List.mem_cons_self ..))).1
    have kw:=(hm.row (List.mem_cons_of_mem _ (List.mem_cons_of_mem _ (List.mem_cons_self ..)))).1
    have ky:=(hm.row (List.mem_cons_of_mem _ (List.mem_cons_of_mem _ (List.mem_cons_of_mem _ (List.mem_cons_self ..))))).1
    have r1:=rowF_new (F:=G) (sz:=6) (enc:=Su.lkV) ku (Su.flat_den (C:=Su.lkC) (V:=Su.lkV) (fun _=>rfl) c.links) (fun x _=>rfl)
    have r2:=rowF_new (F:=addF G (addrOf u) (denL (c.links.flatMap Su.lkC))) (sz:=2) (enc:=Su.hsV) kw (Su.flat_den (C:=Su.hsC) (V:=Su.hsV) (fun _=>rfl) c.hosts) (fun x _=>rfl)
    have r3:=rowF_new (F:=addF (addF G (addrOf u) (denL (c.links.flatMap Su.lkC))) (addrOf w) (denL (c.hosts.flatMap Su.hsC))) (sz:=1) (enc:=Su.wtV) ky (Su.flat_den (C:=Su.wtC) (V:=Su.wtV) (fun _=>rfl) ps) (fun x _=>rfl)
    have l1:G.le (addF (addF (addF G (addrOf u) (denL (c.links.flatMap Su.lkC))) (addrOf w) (denL (c.hosts.flatMap Su.hsC))) (addrOf y) (denL (ps.flatMap Su.wtC))):=addF.old.trans (addF.old.trans addF.old)
    refine ⟨_,_,h6.symm,h7.trans ((MemFits.freeze (m:=[⟨addrOf w,c.hosts.flatMap Su.hsC,.row w 70 2 c.hosts.length⟩,⟨addrOf y,ps.flatMap Su.wtC,.row y 42 1 ps.length⟩,Su.rB b t2 n2])).trans ((MemFits.freeze (m:=[⟨addrOf y,ps.flatMap Su.wtC,.row y 42 1 ps.length⟩,Su.rB b t2 n2])).trans (MemFits.freeze (m:=[Su.rB b t2 n2])))),c,ls,n,_,u,w,y,sv,t2,n2,h1,h2.trans l1,⟨?_,?_,?_,?_⟩,rfl,rfl⟩
    · exact RowF.mono (addF.old.trans addF.old) (fun _ _ h=>h) r1
    · exact RowF.mono addF.old (fun _ _ h=>h) r2
    · exact ⟨ps,h3,r3,fun p hp=>RowF.mono l1 (fun _ _ h=>h) (h4 p hp)⟩
    · exact RowF.mono l1 (fun _ _ h=>h) h5
  have cm1:=must40_c F hT hE b tx hs 1 (by omega) Su.wSwitches 1 (some 1) (.inr ⟨by decide,by decide,rfl⟩)
  have hspec:Su.parse (Su.sp 10 tx)=Su.bind (Su.must Su.wSwitches (some 1) (Su.sp 10 tx) 1) fun a ls n=>Su.bind (Su.lnks ls n) fun b ls n=>Su.bind (Su.hsts ls n) fun c ls n=>Su.bind (Su.wgts ls n) fun d ls n =>
    Su.bind (Su.must Su.wStarts none ls n) fun e ls n=>Su.bind (Su.tails Su.wEnds [] ls n) fun f ls n=>Su.done (Su.cfg a b c d e f) ls n:=rfl
  generalize Su.parse (Su.sp 10 tx)=res at *
  have cm1:=cm1.mono (K':=fun r m=>∃ sw t2 G v,(Su.must Su.wSwitches (some 1) (Su.sp 10 tx) 1 = .ok [sw] (Su.sp 10 t2) 2∧t2.length<tx.length∧F.le G∧SlOk v 1∧G.c ((addrOf v).add 0) (.int .i64 sw))∧r = .hs v 1∧m=[hpB G,Su.rB b t2 2]) (fun r m ⟨xs,t2,G,v,h1,h2,h3,h4,h5,h6⟩=>by
    have hl:xs.length=1:=by
      unfold Su.must at h1
      split at h1
      · rename_i x r e
        cases h1
        exact Su.ints_len e
      · cases h1
    match xs,hl with
    | [sw],_ =>
      obtain ⟨us,e1,_,e2⟩:=h4.at_ 0 sw rfl
      subst e1
      exact ⟨sw,t2,G,v,⟨h1,h2,h3,h4.ok,e2.1⟩,h5,h6⟩) (fun ch m h=>h)
  unfold Su.rB at cm1 ⊢
  unfold Su.wSwitches at cm1
  refine ncallx_of Tryd.func16 rfl (by decide) ?_
  have ci:=fun G (h:F.le G) t (ht:t.length≤tx.length) n hn=>(ints40_c G (hT.mono h) (hE.mono h) b t (by omega) n hn Su.wLink 6 (some 6) (.inr ⟨by decide,by decide,rfl⟩)).mono (fun r m h=>Su.uni_ints h) (fun ch m h=>h)
  unfold Su.Uni Su.rB at ci
  have ciL:=ci
  unfold Su.wLink at ci
  (repeat' (first|(with_reducible first|(refine hK _ _ ?_;clear hP hK Kp K)|(refine hP _ _ ?_;clear hP hK Kp K))|(with_reducible (refine hK _ ?_;clear hK K))|((with_reducible refine gOX ?_);(first|((with_reducible refine st_opX ?_);intro K Kp hK hP;(conv=>whnf))|(with_reducible refine st_nilX ?_)))|((first|((with_reducible refine gN ?_);(with_reducible first|refine NN.lit ?_|refine NN.a2 ?_|refine NN.a5 ?_))|((with_reducible refine gH ?_);((with_reducible refine NH.mk ?s ?_);case s=>(and_intros<;>first|with_reducible rfl|((with_reducible refine gOnes ?_);rfl)|((with_reducible refine gLen ?_);rfl)|omega)))|((with_reducible refine gCX ?_);(first|((with_reducible refine NCallX.isF 39 ?_);refine NCallX.subw [0,1] _ _ (cm1) rfl (by decide) rfl ?_ ?_;((rintro _ _ ⟨sw,t2,G,v,⟨h1,h2,h3,h4,h5⟩,rfl,rfl⟩)<;>refine ⟨Nat.le_of_ble_eq_true rfl,_,rfl,?_⟩);rotate_right;((rintro _ _ ⟨h1,rfl,G,t2,h3,rfl⟩)<;>refine ⟨Nat.le_of_ble_eq_true rfl,?_⟩))|((with_reducible refine NCallX.isF 40 ?_);refine NCallX.subw [0,1] _ _ (ci G h3 t2 (by omega) 2 (by omega)) rfl (by decide) rfl ?_ ?_;((rintro _ _ ⟨ok,xs,t3,n3,G3,v3,hx,rfl,rfl⟩)<;>refine ⟨Nat.le_of_ble_eq_true rfl,_,rfl,?_⟩);rotate_right;((rintro _ _ ⟨k1,rfl,G3,t3,k3,rfl⟩)<;>refine ⟨Nat.le_of_ble_eq_true rfl,?_⟩))))|(with_reducible refine NLd.of (by with_reducible assumption) ?_))<;>(conv=>whnf))|((with_reducible refine gXX ?_);((with_reducible first|refine st_seqX ?_|refine st_regionX ?_|refine st_blockX ?_)))|(with_reducible first|refine st_thenX ?_|refine st_thenX_panic ?_)|((with_reducible refine gRX ?_);((with_reducible refine st_retX_panic ?_)))|((with_reducible refine gFX ?_);((refine st_funcX rfl ?_);intro K hK;(conv=>whnf)))|((intro _;skip)<;>(conv=>whnf))))
  · exact ⟨1,by rw [hspec,show Su.must Su.wSwitches (some 1) (Su.sp 10 tx) 1 = .bad 1 from h1];rfl,rfl,G,t2,_,h3,MemFits.pre 2 rfl⟩
  · exact ⟨2,by rw [hspec,show Su.must Su.wSwitches (some 1) (Su.sp 10 tx) 1 = .ok [sw] (Su.sp 10 t2) 2 from h1];show Su.bind (Su.lnks (Su.sp 10 t2) 2) _=_;unfold Su.lnks;rw [Su.ask_bad (one:=Su.ints Su.wLink (some 6)) (Nat.le_refl _) k1];rfl,rfl,G3,t3,_,h3.trans k3,MemFits.pre 2 rfl⟩
  rename_i b2 b3
  have hs1:res=Su.bind (Su.lnks (Su.sp 10 t2) 2) fun b ls n=>Su.bind (Su.hsts ls n) fun c ls n=>Su.bind (Su.wgts ls n) fun d ls n =>
    Su.bind (Su.must Su.wStarts none ls n) fun e ls n=>Su.bind (Su.tails Su.wEnds [] ls n) fun f ls n=>Su.done (Su.cfg [sw] b c d e f) ls n:=by
    rw [hspec,show Su.must Su.wSwitches (some 1) (Su.sp 10 tx) 1 = .ok [sw] (Su.sp 10 t2) 2 from h1];rfl
  clear hspec cm1
  generalize hK1:(fun b ls n=>Su.bind (Su.hsts ls n) fun c ls n=>Su.bind (Su.wgts ls n) fun d ls n =>
    Su.bind (Su.must Su.wStarts none ls n) fun e ls n=>Su.bind (Su.tails Su.wEnds [] ls n) fun f ls n=>Su.done (Su.cfg [sw] b c d e f) ls n)=K1 at hs1
  unfold Su.lnks at hs1
  obtain ⟨x1,x2,x3,x4,x5,x6,x7⟩:=hx
  have x6':ok=true→Su.ints Su.wLink (some 6) (Su.sp 10 t2) = .ok xs (Su.sp 10 t3)∧t3.length<t2.length∧n3=2+1:=x6
  have x7':ok=false→Su.ints Su.wLink (some 6) (Su.sp 10 t2) = .no∧t3=t2∧n3=2:=x7
  obtain ⟨k0,hk0,hk1⟩:=Su.ask_uni (f:=Su.link) (acc:=[]) (fun _ _ h=>Su.ints_rest h) (Nat.le_refl _) x6' x7'
  rw [hk0] at hs1
  refine st_autoX (α:=Heap × List UInt8 × Nat × List Su.Lk × Value × Bool × List Int × Value × Nat)
    (fun (G,t,n,acc,u,ok,xs,v,k)=>F.le G∧Su.Ints G v xs∧SlOk v xs.length∧(ok=true→xs.length=6)∧n+t.length≤tx.length+1∧t.length≤tx.length∧acc.length+t.length+(if ok=true then 1 else 0)≤tx.length∧(ok=true→(Su.sp 10 t).length≤k)∧res=Su.bind (Su.pend (Su.ints Su.wLink (some 6)) Su.link k acc ok xs (Su.sp 10 t) n) K1)
    (fun (G,t,n,acc,u,ok,xs,v,k)=>[.keep,.keep,.keep,.keep,.set (.hs v xs.length),.set (.bool ok),.keep,.keep,.keep,.keep,.keep,.keep,.keep,.keep,.keep,.keep,.keep,.keep,.keep,.keep,.keep,.keep,.keep,.drop,.drop,.drop,.drop,.drop,.drop,.drop,.drop,.drop,.drop,.drop,.drop,.drop,.drop,.drop,.drop,.drop,.drop,.drop,.drop,.drop,.drop,.drop,.drop,.drop,.drop,.drop,.drop,.drop,.drop,.drop,.drop,.keep,.keep,.keep,.keep,.keep,.keep,.keep,.keep,.keep,.keep,.keep,.keep,.keep,.keep,.keep,.keep,.keep,.keep,.keep,.keep,.keep,.keep,.keep,.keep,.keep,.keep,.keep,.keep,.keep,.keep,.keep,.keep,.keep,.keep,.keep,.keep,.keep,.keep,.keep,.keep,.keep,.keep,.keep,.keep,.keep,.keep,.keep,.keep,.keep,.keep,.keep,.keep,.keep,.keep,.keep,.keep,.keep,.keep,.keep,.keep,.keep,.keep,.keep,.keep,.keep,.keep,.keep,.keep,.keep,.keep,.keep])
    (fun (G,t,n,acc,u,ok,xs,v,k)=>[.set (hpB G),.set (Su.rB b t n),.keep,.set ⟨⟨b3,0,none⟩,[.int .i64 sw,.sl 4 u acc.length,.raw (.slice none 0 0),.raw (.slice none 0 0),.raw (.slice none 0 0),.int .i64 0,.int .i64 0,.int .i64 0,.int .i64 0,.int .i64 0,.int .i64 0],.var 29⟩,.set ⟨addrOf u,acc.flatMap Su.lkC,.row u 68 6 acc.length⟩])
    (fun (G,t,n,acc,u,ok,xs,v,k)=>2*t.length+if ok=true then 1 else 0) (G3,t3,n3,[],.slice none 0 0,ok,xs,v3,k0)
    ⟨h3.trans x1,x2,x3,(fun h=>Su.ints_len (x6' h).1),by omega,by omega,by
      cases ok with
      | true=>have:=(x6' rfl).2.1;rw [if_pos rfl];simp;omega
      | false=>rw [if_neg (by decide)];simp;omega,hk1,hs1⟩ ?_ ?_ ?_
  · repeat (first|exact FitsSl.nil|refine FitsSl.any ?_|refine FitsSl.cons (Fit1.int (by first | rfl | omega)) ?_|refine FitsSl.cons (Fit1.bool rfl) ?_|refine FitsSl.cons (Fit1.same (by intro h;cases h) (by with_reducible rfl)) ?_)
  · exact MemFits.trans (MemFits.nilRow _ _ _) (MemFits.congr rfl)
  (intro ⟨G4,t4,n4,acc,u,ok,xs,v4,k⟩ ⟨y1,y2,y3,y4,y5,y6,y7,y8,y9⟩;intro K hK;(conv=>whnf);refine hK _ _ ?_;clear hK K)
  dsimp only at y1 y2 y3 y4 y5 y6 y7 y8 y9 ⊢
  cases ok with
  | true =>
    obtain ⟨a0,a1,a2,a3,a4,a5,rfl⟩:=Su.six (y4 rfl)
    have e0:=Su.int_at y2 (i:=0) rfl
    have e1:=Su.int_at y2 (i:=1) rfl
    have e2:=Su.int_at y2 (i:=2) rfl
    have e3:=Su.int_at y2 (i:=3) rfl
    have e4:=Su.int_at y2 (i:=4) rfl
    have e5:=Su.int_at y2 (i:=5) rfl
    have ci4:=ci G4 y1 t4 y6 n4 (by omega)
    have y8:=y8 rfl
    have y9':res=Su.bind (Su.many (Su.ints Su.wLink (some 6)) Su.link k (acc++[⟨a0,a1,a2,a3,a4,a5⟩]) (Su.sp 10 t4) n4) K1:=y9
    have hal:(acc.flatMap Su.lkC).length=acc.length*6:=Su.flat_len (C:=Su.lkC) (k:=6) (fun _=>rfl) acc
    have y3:SlOk v4 6:=y3
    rw [show ([a0,a1,a2,a3,a4,a5]:List Int).length=6 from rfl]
    (repeat' (first|(with_reducible first|(refine hK _ _ ?_;clear hP hK Kp K)|(refine hP _ _ ?_;clear hP hK Kp K))|(with_reducible first|(refine hK _ _ ?_;clear hK K)|(refine hA ?_;clear hA hB A B)|(refine hK _ ?_;clear hK K))|((with_reducible refine gOX ?_);(first|((with_reducible refine st_opX ?_);intro K Kp hK hP;(conv=>whnf))|(with_reducible refine st_nilX ?_)))|((first|((with_reducible refine gI ?_);(((with_reducible refine NIf.yes ?s ?_);case s=>rfl)))|((with_reducible refine gN ?_);(with_reducible first|refine NN.lit ?_|refine NN.a2 ?_|refine NN.a5 ?_))|((with_reducible refine gH ?_);((with_reducible refine NH.mk ?s ?_);case s=>(and_intros<;>first|with_reducible rfl|((with_reducible refine gOnes ?_);rfl)|((with_reducible refine gLen ?_);rfl)|((with_reducible refine gKept ?_);exact rfl)|omega)))|((with_reducible refine gCX ?_);((with_reducible refine NCallX.isF 40 ?_);refine NCallX.subw [0,1] _ _ (ci4) rfl (by decide) rfl ?_ ?_;((rintro _ _ ⟨ok,xs,t5,n5,G5,v5,hx,rfl,rfl⟩)<;>refine ⟨Nat.le_of_ble_eq_true rfl,_,rfl,?_⟩);rotate_right;((rintro _ _ ⟨k1,rfl,G5,t5,k3,rfl⟩)<;>refine ⟨Nat.le_of_ble_eq_true rfl,?_⟩)))|(with_reducible refine NLd.of (by with_reducible assumption) ?_))<;>(conv=>whnf))|((with_reducible refine gNRK ?_);((with_reducible refine st_ordSout ?_)))|((with_reducible refine gNOK ?_);(first|(refine st_ordK1 rfl (by kernel_rfl) rfl ?_;intro K hK;(conv=>whnf))|(refine st_ordK0 rfl (by kernel_rfl) ?_)|(refine st_ordKA rfl rfl (by kernel_rfl) (by intro h;cases h) ?_)))|((with_reducible refine gNEK ?_);(first|(refine st_eachK ?_ ?_;(intro K hK;(conv=>whnf)))|exact st_eachK0))|((with_reducible refine gX ?_);((refine st_orderS [3,4] rfl rfl (by kernel_rfl) _ rfl ?_)))|((with_reducible refine gXX ?_);(first|(with_reducible first|refine st_seqX ?_|refine st_regionX ?_|refine st_blockX ?_|refine st_skipX ?_)|((with_reducible refine st_condX ?_);intro A B hA hB;(conv=>whnf))|(refine st_drawX ?_)))|(with_reducible first|refine z1 ?_|refine z9 ?_|refine st_thenX ?_|refine st_thenX_panic ?_|refine st_block_panic ?_|refine st_round_panic ?_)|((with_reducible refine gRX ?_);((with_reducible refine st_retX_panic ?_)))|((intro _;skip)<;>(conv=>whnf))))
    all_goals try exact ⟨n4,by rw [y9',Su.ask_bad (one:=Su.ints Su.wLink (some 6)) y8 k1];rfl,rfl,G5,t5,_,y1.trans k3,MemFits.pre 2 rfl⟩
    all_goals
      rename_i b6 w2
      obtain ⟨x1,x2,x3,x4,x5,x6,x7⟩:=hx
      have x6':ok=true→Su.ints Su.wLink (some 6) (Su.sp 10 t4) = .ok xs (Su.sp 10 t5)∧t5.length<t4.length∧n5=n4+1:=x6
      have x7':ok=false→Su.ints Su.wLink (some 6) (Su.sp 10 t4) = .no∧t5=t4∧n5=n4:=x7
      obtain ⟨k',hk0,hk1⟩:=Su.ask_uni (f:=Su.link) (acc:=acc++[⟨a0,a1,a2,a3,a4,a5⟩]) (fun _ _ h=>Su.ints_rest h) y8 x6' x7'
      have hlt:ok=true→t5.length<t4.length:=fun h=>(x6' h).2.1
      refine st_round (G5,t5,n5,acc++[⟨a0,a1,a2,a3,a4,a5⟩],w2,ok,xs,v5,k') ⟨y1.trans x1,x2,x3,(fun h=>Su.ints_len (x6' h).1),by show n5+t5.length≤tx.length+1;omega,by show t5.length≤tx.length;omega,by
        show (acc++[(⟨a0,a1,a2,a3,a4,a5⟩:Su.Lk)]).length+t5.length+(if ok=true then 1 else 0)≤tx.length
        rw [List.length_append]
        simp only [List.length_cons,List.length_nil]
        cases ok with
        | true=>have:=hlt rfl;rw [if_pos rfl] at y7 ⊢;omega
        | false=>rw [if_pos rfl] at y7;rw [if_neg (by decide)];omega,hk1,by rw [y9',hk0]⟩ ?_ ?_ ?_
      · cases ok with
        | true=>have:=hlt rfl;show 2*t5.length+1<2*t4.length+1;omega
        | false=>show 2*t5.length+0<2*t4.length+1;omega
      · dsimp only
        repeat (first|exact FitsSl.nil|refine FitsSl.any ?_|refine FitsSl.cons (Fit1.int (by first | rfl | omega)) ?_|refine FitsSl.cons (Fit1.bool rfl) ?_|refine FitsSl.cons (Fit1.same (by intro h;cases h) (by with_reducible rfl)) ?_)
      · dsimp only
        rw [List.flatMap_append,List.length_append]
        exact MemFits.pre 5 rfl
  | false =>
    have hs2:res=K1 acc (Su.sp 10 t4) n4:=y9
    clear hs1 y2 y3 y4 y8 y9 hk0 hk1 x1 x2 x3 x4 x5 x6 x7 x6' x7' h4 h5
    subst hK1
    have hs2:res=Su.bind (Su.hsts (Su.sp 10 t4) n4) fun c ls n=>Su.bind (Su.wgts ls n) fun d ls n =>
      Su.bind (Su.must Su.wStarts none ls n) fun e ls n=>Su.bind (Su.tails Su.wEnds [] ls n) fun f ls n=>Su.done (Su.cfg [sw] acc c d e f) ls n:=hs2
    have cj:=fun G (h:F.le G) t (ht:t.length≤tx.length) n hn=>(ints40_c G (hT.mono h) (hE.mono h) b t (by omega) n hn Su.wHost 2 (some 2) (.inr ⟨by decide,by decide,rfl⟩)).mono (fun r m h=>Su.uni_ints h) (fun ch m h=>h)
    unfold Su.Uni Su.rB at cj
    unfold Su.wHost at cj
    (repeat' (first|(with_reducible first|(refine hK _ _ ?_;clear hP hK Kp K)|(refine hP _ _ ?_;clear hP hK Kp K))|(with_reducible (refine hB ?_;clear hA hB A B))|((with_reducible refine gOX ?_);(first|((with_reducible refine st_opX ?_);intro K Kp hK hP;(conv=>whnf))|(with_reducible refine st_nilX ?_)))|((first|((with_reducible refine gI ?_);(((with_reducible refine NIf.no ?s ?_);case s=>rfl)))|((with_reducible refine gCX ?_);((with_reducible refine NCallX.isF 40 ?_);refine NCallX.subw [0,1] _ _ (cj G4 y1 t4 y6 n4 (by omega)) rfl (by decide) rfl ?_ ?_;((rintro _ _ ⟨ok,xs,t5,n5,G5,v5,hx,rfl,rfl⟩)<;>refine ⟨Nat.le_of_ble_eq_true rfl,_,rfl,?_⟩);rotate_right;((rintro _ _ ⟨k1,rfl,G5,t5,k3,rfl⟩)<;>refine ⟨Nat.le_of_ble_eq_true rfl,?_⟩))))<;>(conv=>whnf))|((with_reducible refine gXX ?_);(first|(with_reducible first|refine st_seqX ?_|refine st_regionX ?_|refine st_blockX ?_|refine st_exitX ?_)|((with_reducible refine st_condX ?_);intro A B hA hB;(conv=>whnf))))|(with_reducible first|refine z10 ?_|refine z19 ?_|refine st_thenX ?_|refine st_thenX_exit ?_|refine st_thenX_panic ?_)|((with_reducible refine gRX ?_);((with_reducible refine st_retX_panic ?_)))))
    · exact ⟨n4,by rw [hs2];unfold Su.hsts;rw [Su.ask_bad (one:=Su.ints Su.wHost (some 2)) (Nat.le_refl _) k1];rfl,rfl,G5,t5,_,y1.trans k3,MemFits.pre 2 rfl⟩
    generalize hK2:(fun c ls n=>Su.bind (Su.wgts ls n) fun d ls n =>
      Su.bind (Su.must Su.wStarts none ls n) fun e ls n=>Su.bind (Su.tails Su.wEnds [] ls n) fun f ls n=>Su.done (Su.cfg [sw] acc c d e f) ls n)=K2 at hs2
    unfold Su.hsts at hs2
    obtain ⟨x1,x2,x3,x4,x5,x6,x7⟩:=hx
    have x6':ok=true→Su.ints Su.wHost (some 2) (Su.sp 10 t4) = .ok xs (Su.sp 10 t5)∧t5.length<t4.length∧n5=n4+1:=x6
    have x7':ok=false→Su.ints Su.wHost (some 2) (Su.sp 10 t4) = .no∧t5=t4∧n5=n4:=x7
    obtain ⟨k0,hk0,hk1⟩:=Su.ask_uni (f:=Su.host) (acc:=[]) (fun _ _ h=>Su.ints_rest h) (Nat.le_refl _) x6' x7'
    rw [hk0] at hs2
    rw [if_neg (by decide)] at y7
    refine st_autoX (α:=Heap × List UInt8 × Nat × List Su.Hs × Value × Bool × List Int × Value × Nat)
      (fun (G,t,n,hc,w,ok,xs,v,k)=>F.le G∧Su.Ints G v xs∧SlOk v xs.length∧(ok=true→xs.length=2)∧n+t.length≤tx.length+1∧t.length≤tx.length∧hc.length+t.length+(if ok=true then 1 else 0)≤tx.length∧(ok=true→(Su.sp 10 t).length≤k)∧res=Su.bind (Su.pend (Su.ints Su.wHost (some 2)) Su.host k hc ok xs (Su.sp 10 t) n) K2)
      (fun (G,t,n,hc,w,ok,xs,v,k)=>[.keep,.keep,.keep,.keep,.keep,.keep,.set (.hs v xs.length),.set (.bool ok),.keep,.keep,.keep,.keep,.keep,.keep,.keep,.keep,.keep,.keep,.keep,.keep,.keep,.keep,.keep,.keep,.keep,.keep,.keep,.keep,.keep,.keep,.keep,.keep,.keep,.keep,.keep,.keep,.keep,.keep,.keep,.keep,.keep,.keep,.keep,.keep,.keep,.keep,.keep,.keep,.keep,.keep,.keep,.keep,.keep,.keep,.keep,.keep,.keep,.keep,.keep,.keep,.drop,.drop,.drop,.drop,.drop,.drop,.drop,.drop,.drop,.drop,.drop,.drop,.drop,.drop,.drop,.drop,.drop,.drop,.drop,.drop,.keep,.keep,.keep,.keep,.keep,.keep,.keep,.keep,.keep,.keep,.keep,.keep,.keep,.keep,.keep,.keep,.keep,.keep,.keep,.keep,.keep,.keep,.keep,.keep,.keep,.keep,.keep,.keep,.keep,.keep,.keep,.keep,.keep,.keep,.keep,.keep,.keep,.keep,.keep,.keep,.keep,.keep,.keep,.keep,.keep,.keep])
      (fun (G,t,n,hc,w,ok,xs,v,k)=>[.set (hpB G),.set (Su.rB b t n),.keep,.set ⟨⟨b3,0,none⟩,[.int .i64 sw,.sl 4 u acc.length,.sl 5 w hc.length,.raw (.slice none 0 0),.raw (.slice none 0 0),.int .i64 0,.int .i64 0,.int .i64 0,.int .i64 0,.int .i64 0,.int .i64 0],.var 29⟩,.keep,.set ⟨addrOf w,hc.flatMap Su.hsC,.row w 70 2 hc.length⟩])
      (fun (G,t,n,hc,w,ok,xs,v,k)=>2*t.length+if ok=true then 1 else 0) (G5,t5,n5,[],.slice none 0 0,ok,xs,v5,k0)
      ⟨y1.trans x1,x2,x3,(fun h=>Su.ints_len (x6' h).1),by omega,by omega,by
        cases ok with
        | true=>have:=(x6' rfl).2.1;rw [if_pos rfl];simp;omega
        | false=>rw [if_neg (by decide)];simp;omega,hk1,hs2⟩ ?_ ?_ ?_
    · repeat (first|exact FitsSl.nil|refine FitsSl.any ?_|refine FitsSl.cons (Fit1.int (by first | rfl | omega)) ?_|refine FitsSl.cons (Fit1.bool rfl) ?_|refine FitsSl.cons (Fit1.same (by intro h;cases h) (by with_reducible rfl)) ?_)
    · exact MemFits.trans (MemFits.nilRow _ _ _) (MemFits.congr rfl)
    (intro ⟨G6,t6,n6,hc,w,ok,xs,v6,k⟩ ⟨g1,g2,g3,g4,g5,g6,g7,g8,g9⟩;intro K hK;(conv=>whnf);refine hK _ _ ?_;clear hK K)
    dsimp only at g1 g2 g3 g4 g5 g6 g7 g8 g9 ⊢
    cases ok with
    | true =>
      obtain ⟨a0,a1,rfl⟩:=Su.two (g4 rfl)
      have e0:=Su.int_at g2 (i:=0) rfl
      have e1:=Su.int_at g2 (i:=1) rfl
      have ci4:=cj G6 g1 t6 g6 n6 (by omega)
      have g8:=g8 rfl
      have g9':res=Su.bind (Su.many (Su.ints Su.wHost (some 2)) Su.host k (hc++[⟨a0,a1⟩]) (Su.sp 10 t6) n6) K2:=g9
      have hal:(acc.flatMap Su.lkC).length=acc.length*6:=Su.flat_len (C:=Su.lkC) (k:=6) (fun _=>rfl) acc
      have hbl:(hc.flatMap Su.hsC).length=hc.length*2:=Su.flat_len (C:=Su.hsC) (k:=2) (fun _=>rfl) hc
      have g3:SlOk v6 2:=g3
      rw [show ([a0,a1]:List Int).length=2 from rfl]
      (repeat' (first|(with_reducible first|(refine hK _ _ ?_;clear hP hK Kp K)|(refine hP _ _ ?_;clear hP hK Kp K))|(with_reducible first|(refine hK _ _ ?_;clear hK K)|(refine hA ?_;clear hA hB A B)|(refine hK _ ?_;clear hK K))|((with_reducible refine gOX ?_);(first|((with_reducible refine st_opX ?_);intro K Kp hK hP;(conv=>whnf))|(with_reducible refine st_nilX ?_)))|((first|((with_reducible refine gI ?_);(((with_reducible refine NIf.yes ?s ?_);case s=>rfl)))|((with_reducible refine gN ?_);(with_reducible first|refine NN.lit ?_|refine NN.a2 ?_|refine NN.a5 ?_))|((with_reducible refine gH ?_);((with_reducible refine NH.mk ?s ?_);case s=>(and_intros<;>first|with_reducible rfl|((with_reducible refine gOnes ?_);rfl)|((with_reducible refine gLen ?_);rfl)|((with_reducible refine gKept ?_);exact rfl)|omega)))|((with_reducible refine gCX ?_);((with_reducible refine NCallX.isF 40 ?_);refine NCallX.subw [0,1] _ _ (ci4) rfl (by decide) rfl ?_ ?_;((rintro _ _ ⟨ok,xs,t7,n7,G7,v7,hx,rfl,rfl⟩)<;>refine ⟨Nat.le_of_ble_eq_true rfl,_,rfl,?_⟩);rotate_right;((rintro _ _ ⟨k1,rfl,G7,t7,k3,rfl⟩)<;>refine ⟨Nat.le_of_ble_eq_true rfl,?_⟩)))|(with_reducible refine NLd.of (by with_reducible assumption) ?_))<;>(conv=>whnf))|((with_reducible refine gNRK ?_);((with_reducible refine st_ordSout ?_)))|((with_reducible refine gNOK ?_);(first|(refine st_ordK1 rfl (by kernel_rfl) rfl ?_;intro K hK;(conv=>whnf))|(refine st_ordK0 rfl (by kernel_rfl) ?_)|(refine st_ordKA rfl rfl (by kernel_rfl) (by intro h;cases h) ?_)))|((with_reducible refine gNEK ?_);(first|(refine st_eachK ?_ ?_;(intro K hK;(conv=>whnf)))|exact st_eachK0))|((with_reducible refine gX ?_);((refine st_orderS [3,5] rfl rfl (by kernel_rfl) _ rfl ?_)))|((with_reducible refine gXX ?_);(first|(with_reducible first|refine st_seqX ?_|refine st_regionX ?_|refine st_blockX ?_|refine st_skipX ?_)|((with_reducible refine st_condX ?_);intro A B hA hB;(conv=>whnf))|(refine st_drawX ?_)))|(with_reducible first|refine z1 ?_|refine z9 ?_|refine st_thenX ?_|refine st_thenX_panic ?_|refine st_block_panic ?_|refine st_round_panic ?_)|((with_reducible refine gRX ?_);((with_reducible refine st_retX_panic ?_)))|((intro _;skip)<;>(conv=>whnf))))
      all_goals try exact ⟨n6,by rw [g9',Su.ask_bad (one:=Su.ints Su.wHost (some 2)) g8 k1];rfl,rfl,G7,t7,_,g1.trans k3,MemFits.pre 2 rfl⟩
      all_goals
        rename_i b6 w2
        obtain ⟨x1,x2,x3,x4,x5,x6,x7⟩:=hx
        have x6':ok=true→Su.ints Su.wHost (some 2) (Su.sp 10 t6) = .ok xs (Su.sp 10 t7)∧t7.length<t6.length∧n7=n6+1:=x6
        have x7':ok=false→Su.ints Su.wHost (some 2) (Su.sp 10 t6) = .no∧t7=t6∧n7=n6:=x7
        obtain ⟨k',hk0,hk1⟩:=Su.ask_uni (f:=Su.host) (acc:=hc++[⟨a0,a1⟩]) (fun _ _ h=>Su.ints_rest h) g8 x6' x7'
        have hlt:ok=true→t7.length<t6.length:=fun h=>(x6' h).2.1
        refine st_round (G7,t7,n7,hc++[⟨a0,a1⟩],w2,ok,xs,v7,k') ⟨g1.trans x1,x2,x3,(fun h=>Su.ints_len (x6' h).1),by show n7+t7.length≤tx.length+1;omega,by show t7.length≤tx.length;omega,by
          show (hc++[(⟨a0,a1⟩:Su.Hs)]).length+t7.length+(if ok=true then 1 else 0)≤tx.length
          rw [List.length_append]
          simp only [List.length_cons,List.length_nil]
          cases ok with
          | true=>have:=hlt rfl;rw [if_pos rfl] at g7 ⊢;omega
          | false=>rw [if_pos rfl] at g7;rw [if_neg (by decide)];omega,hk1,by rw [g9',hk0]⟩ ?_ ?_ ?_
        · cases ok with
          | true=>have:=hlt rfl;show 2*t7.length+1<2*t6.length+1;omega
          | false=>show 2*t7.length+0<2*t6.length+1;omega
        · dsimp only
          repeat (first|exact FitsSl.nil|refine FitsSl.any ?_|refine FitsSl.cons (Fit1.int (by first | rfl | omega)) ?_|refine FitsSl.cons (Fit1.bool rfl) ?_|refine FitsSl.cons (Fit1.same (by intro h;cases h) (by with_reducible rfl)) ?_)
        · dsimp only
          rw [List.flatMap_append,List.length_append]
          exact MemFits.pre 6 rfl
    | false =>
      have hs3:res=K2 hc (Su.sp 10 t6) n6:=g9
      rw [if_neg (by decide)] at g7
      clear hs2 g2 g3 g4 g8 g9 hk0 hk1 x1 x2 x3 x4 x5 x6 x7 x6' x7'
      subst hK2
      have hs3:res=Su.bind (Su.wgts (Su.sp 10 t6) n6) fun d ls n =>
        Su.bind (Su.must Su.wStarts none ls n) fun e ls n=>Su.bind (Su.tails Su.wEnds [] ls n) fun f ls n=>Su.done (Su.cfg [sw] acc hc d e f) ls n:=hs3
      have ck:=fun G (h:F.le G) t (ht:t.length≤tx.length) n hn=>(weights40_c G (hE.mono h) b t (by omega) n hn).mono (fun r m h=>Su.uni_sets h) (fun ch m h=>h)
      unfold Su.Uni Su.rB at ck
      (repeat' (first|(with_reducible first|(refine hK _ _ ?_;clear hP hK Kp K)|(refine hP _ _ ?_;clear hP hK Kp K))|(with_reducible (refine hB ?_;clear hA hB A B))|((with_reducible refine gOX ?_);(first|((with_reducible refine st_opX ?_);intro K Kp hK hP;(conv=>whnf))|(with_reducible refine st_nilX ?_)))|((first|((with_reducible refine gI ?_);(((with_reducible refine NIf.no ?s ?_);case s=>rfl)))|((with_reducible refine gCX ?_);((with_reducible refine NCallX.isF 41 ?_);refine NCallX.subw [0,1] _ _ (ck G6 g1 t6 g6 n6 (by omega)) rfl (by decide) rfl ?_ ?_;((rintro _ _ ⟨ok,xs,t7,n7,G7,v7,hx,rfl,rfl⟩)<;>refine ⟨Nat.le_of_ble_eq_true rfl,_,rfl,?_⟩);rotate_right;((rintro _ _ ⟨k1,rfl,G7,t7,k3,rfl⟩)<;>refine ⟨Nat.le_of_ble_eq_true rfl,?_⟩))))<;>(conv=>whnf))|((with_reducible refine gXX ?_);(first|(with_reducible first|refine st_seqX ?_|refine st_regionX ?_|refine st_blockX ?_|refine st_exitX ?_)|((with_reducible refine st_condX ?_);intro A B hA hB;(conv=>whnf))))|(with_reducible first|refine z10 ?_|refine z19 ?_|refine st_thenX ?_|refine st_thenX_exit ?_|refine st_thenX_panic ?_)|((with_reducible refine gRX ?_);((with_reducible refine st_retX_panic ?_)))))
      · exact ⟨n6,by rw [hs3];unfold Su.wgts;rw [Su.ask_bad (one:=Su.sets) (Nat.le_refl _) k1];rfl,rfl,G7,t7,_,g1.trans k3,MemFits.pre 2 rfl⟩
      generalize hK3:(fun d ls n =>
        Su.bind (Su.must Su.wStarts none ls n) fun e ls n=>Su.bind (Su.tails Su.wEnds [] ls n) fun f ls n=>Su.done (Su.cfg [sw] acc hc d e f) ls n)=K3 at hs3
      unfold Su.wgts at hs3
      obtain ⟨x1,x2,x3,x4,x5,x6,x7⟩:=hx
      obtain ⟨k0,hk0,hk1⟩:=Su.ask_uni (f:=id) (acc:=[]) (fun _ _ h=>Su.sets_rest h) (Nat.le_refl _) x6 x7
      rw [hk0] at hs3
      refine st_autoX (α:=Heap × List UInt8 × Nat × List (List Nat × Value) × Value × Bool × List Nat × Value × Nat)
        (fun (G,t,n,wc,y,ok,xs,v,k)=>F.le G∧Su.Hexs G v xs∧SlOk v xs.length∧(∀ p∈wc,Su.Hexs G p.2 p.1)∧n+t.length≤tx.length+1∧t.length≤tx.length∧wc.length+t.length+(if ok=true then 1 else 0)≤tx.length∧(ok=true→(Su.sp 10 t).length≤k)∧res=Su.bind (Su.pend Su.sets id k (wc.map (·.1)) ok xs (Su.sp 10 t) n) K3)
        (fun (G,t,n,wc,y,ok,xs,v,k)=>[.keep,.keep,.keep,.keep,.keep,.keep,.keep,.keep,.set (.hs v xs.length),.set (.bool ok),.keep,.keep,.keep,.keep,.keep,.keep,.keep,.keep,.keep,.keep,.keep,.keep,.keep,.keep,.keep,.keep,.keep,.keep,.keep,.keep,.keep,.keep,.keep,.keep,.keep,.keep,.keep,.keep,.keep,.keep,.keep,.keep,.keep,.keep,.keep,.keep,.keep,.keep,.keep,.keep,.keep,.keep,.keep,.keep,.keep,.keep,.keep,.keep,.keep,.keep,.keep,.keep,.keep,.keep,.keep,.keep,.keep,.keep,.keep,.keep,.keep,.keep,.keep,.keep,.keep,.keep,.keep,.keep,.keep,.keep,.keep,.keep,.keep,.keep,.keep,.drop,.drop,.drop,.drop,.drop,.drop,.drop,.drop,.drop,.drop,.drop,.drop,.keep,.keep,.keep,.keep,.keep,.keep,.keep,.keep,.keep,.keep,.keep,.keep,.keep,.keep,.keep,.keep,.keep,.keep,.keep,.keep,.keep,.keep,.keep,.keep,.keep,.keep,.keep,.keep,.keep])
        (fun (G,t,n,wc,y,ok,xs,v,k)=>[.set (hpB G),.set (Su.rB b t n),.keep,.set ⟨⟨b3,0,none⟩,[.int .i64 sw,.sl 4 u acc.length,.sl 5 w hc.length,.sl 6 y wc.length,.raw (.slice none 0 0),.int .i64 0,.int .i64 0,.int .i64 0,.int .i64 0,.int .i64 0,.int .i64 0],.var 29⟩,.keep,.keep,.set ⟨addrOf y,wc.flatMap Su.wtC,.row y 42 1 wc.length⟩])
        (fun (G,t,n,wc,y,ok,xs,v,k)=>2*t.length+if ok=true then 1 else 0) (G7,t7,n7,[],.slice none 0 0,ok,xs,v7,k0)
        ⟨g1.trans x1,x2,x3,(fun p hp=>by cases hp),by omega,by omega,by
          cases ok with
          | true=>have:=(x6 rfl).2.1;rw [if_pos rfl];simp;omega
          | false=>rw [if_neg (by decide)];simp;omega,hk1,hs3⟩ ?_ ?_ ?_
      · repeat (first|exact FitsSl.nil|refine FitsSl.any ?_|refine FitsSl.cons (Fit1.int (by first | rfl | omega)) ?_|refine FitsSl.cons (Fit1.bool rfl) ?_|refine FitsSl.cons (Fit1.same (by intro h;cases h) (by with_reducible rfl)) ?_)
      · exact MemFits.trans (MemFits.nilRow _ _ _) (MemFits.congr rfl)
      (intro ⟨G8,t8,n8,wc,y,ok,xs,v8,k⟩ ⟨q1,q2,q3,q4,q5,q6,q7,q8,q9⟩;intro K hK;(conv=>whnf);refine hK _ _ ?_;clear hK K)
      dsimp only at q1 q2 q3 q4 q5 q6 q7 q8 q9 ⊢
      cases ok with
      | true =>
        have ci4:=ck G8 q1 t8 q6 n8 (by omega)
        have q8:=q8 rfl
        have q9':res=Su.bind (Su.many Su.sets id k (wc.map (·.1)++[xs]) (Su.sp 10 t8) n8) K3:=q9
        have hal:(acc.flatMap Su.lkC).length=acc.length*6:=Su.flat_len (C:=Su.lkC) (k:=6) (fun _=>rfl) acc
        have hbl:(hc.flatMap Su.hsC).length=hc.length*2:=Su.flat_len (C:=Su.hsC) (k:=2) (fun _=>rfl) hc
        have hcl:(wc.flatMap Su.wtC).length=wc.length*1:=Su.flat_len (C:=Su.wtC) (k:=1) (fun _=>rfl) wc
        (repeat' (first|(with_reducible first|(refine hK _ _ ?_;clear hP hK Kp K)|(refine hP _ _ ?_;clear hP hK Kp K))|(with_reducible (refine hA ?_;clear hA hB A B))|((with_reducible refine gOX ?_);(first|((with_reducible refine st_opX ?_);intro K Kp hK hP;(conv=>whnf))|(with_reducible refine st_nilX ?_)))|((first|((with_reducible refine gI ?_);(((with_reducible refine NIf.yes ?s ?_);case s=>rfl)))|((with_reducible refine gN ?_);(with_reducible refine NN.a5 ?_))|((with_reducible refine gH ?_);((with_reducible refine NH.mk ?s ?_);case s=>(and_intros<;>first|with_reducible rfl|((with_reducible refine gOnes ?_);rfl)|((with_reducible refine gLen ?_);rfl)|omega)))|((with_reducible refine gCX ?_);((with_reducible refine NCallX.isF 41 ?_);refine NCallX.subw [0,1] _ _ (ci4) rfl (by decide) rfl ?_ ?_;((rintro _ _ ⟨ok,ys,t9,n9,G9,v9,hx,rfl,rfl⟩)<;>refine ⟨Nat.le_of_ble_eq_true rfl,_,rfl,?_⟩);rotate_right;((rintro _ _ ⟨k1,rfl,G9,t9,k3,rfl⟩)<;>refine ⟨Nat.le_of_ble_eq_true rfl,?_⟩))))<;>(conv=>whnf))|((with_reducible refine gXX ?_);(first|(with_reducible first|refine st_seqX ?_|refine st_regionX ?_|refine st_blockX ?_|refine st_skipX ?_)|((with_reducible refine st_condX ?_);intro A B hA hB;(conv=>whnf))))|(with_reducible first|refine z9 ?_|refine st_thenX ?_|refine st_thenX_panic ?_|refine st_block_panic ?_|refine st_round_panic ?_)|((with_reducible refine gRX ?_);((with_reducible refine st_retX_panic ?_)))|((intro _;skip)<;>(conv=>whnf))))
        all_goals try exact ⟨n8,by rw [q9',Su.ask_bad (one:=Su.sets) q8 k1];rfl,rfl,G9,t9,_,q1.trans k3,MemFits.pre 2 rfl⟩
        all_goals
          rename_i b6 w2
          obtain ⟨x1,x2,x3,x4,x5,x6,x7⟩:=hx
          obtain ⟨k',hk0,hk1⟩:=Su.ask_uni (f:=id) (acc:=wc.map (·.1)++[xs]) (fun _ _ h=>Su.sets_rest h) q8 x6 x7
          have hlt:ok=true→t9.length<t8.length:=fun h=>(x6 h).2.1
          refine st_round (G9,t9,n9,wc++[(xs,v8)],w2,ok,ys,v9,k') ⟨q1.trans x1,x2,x3,(fun p hp=>by
            rcases List.mem_append.1 hp with hp | hp
            · exact RowF.mono x1 (fun _ _ h=>h) (q4 p hp)
            · rw [List.mem_singleton.1 hp];exact RowF.mono x1 (fun _ _ h=>h) q2),by show n9+t9.length≤tx.length+1;omega,by show t9.length≤tx.length;omega,by
            show (wc++[(xs,v8)]).length+t9.length+(if ok=true then 1 else 0)≤tx.length
            rw [List.length_append]
            simp only [List.length_cons,List.length_nil]
            cases ok with
            | true=>have:=hlt rfl;rw [if_pos rfl] at q7 ⊢;omega
            | false=>rw [if_pos rfl] at q7;rw [if_neg (by decide)];omega,hk1,by rw [q9',hk0,List.map_append];rfl⟩ ?_ ?_ ?_
          · cases ok with
            | true=>have:=hlt rfl;show 2*t9.length+1<2*t8.length+1;omega
            | false=>show 2*t9.length+0<2*t8.length+1;omega
          · dsimp only
            repeat (first|exact FitsSl.nil|refine FitsSl.any ?_|refine FitsSl.cons (Fit1.int (by first | rfl | omega)) ?_|refine FitsSl.cons (Fit1.bool rfl) ?_|refine FitsSl.cons (Fit1.same (by intro h;cases h) (by with_reducible rfl)) ?_)
          · dsimp only
            rw [List.flatMap_append,List.length_append]
            exact MemFits.pre 7 rfl
      | false =>
        have hs4:res=K3 (wc.map (·.1)) (Su.sp 10 t8) n8:=q9
        rw [if_neg (by decide)] at q7
        clear hs3 q2 q3 q8 q9 hk0 hk1 x1 x2 x3 x4 x5 x6 x7
        subst hK3
        have hs4:res=Su.bind (Su.must Su.wStarts none (Su.sp 10 t8) n8) fun e ls n=>Su.bind (Su.tails Su.wEnds [] ls n) fun f ls n=>Su.done (Su.cfg [sw] acc hc (wc.map (·.1)) e f) ls n:=hs4
        have cm:=must40_c G8 (hT.mono q1) (hE.mono q1) b t8 (by omega) n8 (by omega) Su.wStarts (-1) none (.inl ⟨by decide,rfl⟩)
        have cm:=cm.mono (K':=fun r m=>∃ st t2 G v,(Su.must Su.wStarts none (Su.sp 10 t8) n8 = .ok st (Su.sp 10 t2) (n8+1)∧t2.length<t8.length∧G8.le G∧Su.Ints G v st∧SlOk v st.length)∧r = .hs v st.length∧m=[hpB G,Su.rB b t2 (n8+1)]) (fun r m ⟨xs,t2,G,v,h1,h2,h3,h4,h5,h6⟩=>⟨xs,t2,G,v,⟨h1,h2,h3,h4,h4.ok⟩,h5,h6⟩) (fun ch m h=>h)
        unfold Su.rB at cm
        unfold Su.wStarts at cm
        (repeat' (first|(with_reducible first|(refine hK _ _ ?_;clear hP hK Kp K)|(refine hP _ _ ?_;clear hP hK Kp K))|(with_reducible (refine hB ?_;clear hA hB A B))|((with_reducible refine gOX ?_);(first|((with_reducible refine st_opX ?_);intro K Kp hK hP;(conv=>whnf))|(with_reducible refine st_nilX ?_)))|((first|((with_reducible refine gI ?_);(((with_reducible refine NIf.no ?s ?_);case s=>rfl)))|((with_reducible refine gN ?_);(with_reducible refine NN.a5 ?_))|((with_reducible refine gH ?_);((with_reducible refine NH.mk ?s ?_);case s=>(and_intros<;>first|with_reducible rfl|((with_reducible refine gOnes ?_);rfl)|((with_reducible refine gLen ?_);rfl))))|((with_reducible refine gCX ?_);((with_reducible refine NCallX.isF 39 ?_);refine NCallX.subw [0,1] _ _ (cm) rfl (by decide) rfl ?_ ?_;((rintro _ _ ⟨st,t9,G9,v9,⟨h1,h2,h3,h4,h5⟩,rfl,rfl⟩)<;>refine ⟨Nat.le_of_ble_eq_true rfl,_,rfl,?_⟩);rotate_right;((rintro _ _ ⟨h1,rfl,G9,t9,h3,rfl⟩)<;>refine ⟨Nat.le_of_ble_eq_true rfl,?_⟩))))<;>(conv=>whnf))|((with_reducible refine gXX ?_);(first|(with_reducible first|refine st_seqX ?_|refine st_regionX ?_|refine st_exitX ?_)|((with_reducible refine st_condX ?_);intro A B hA hB;(conv=>whnf))))|(with_reducible first|refine z10 ?_|refine z19 ?_|refine st_thenX ?_|refine st_thenX_exit ?_|refine st_thenX_panic ?_)|((with_reducible refine gRX ?_);((with_reducible refine st_retX_panic ?_)))))
        · exact ⟨n8,by rw [hs4,show Su.must Su.wStarts none (Su.sp 10 t8) n8 = .bad n8 from h1];rfl,rfl,G9,t9,_,q1.trans h3,MemFits.pre 2 rfl⟩
        have hs5:res=Su.bind (Su.tails Su.wEnds [] (Su.sp 10 t9) (n8+1)) fun f ls n=>Su.done (Su.cfg [sw] acc hc (wc.map (·.1)) st f) ls n:=by
          rw [hs4,show Su.must Su.wStarts none (Su.sp 10 t8) n8 = .ok st (Su.sp 10 t9) (n8+1) from h1];rfl
        refine ncallx_of Tryd.func25 rfl (by decide) ?_
        (repeat' (first|(with_reducible first|(refine hK _ _ ?_;clear hP hK Kp K)|(refine hK _ ?_;clear hK K))|((with_reducible refine st_opX ?_);intro K Kp hK hP;(conv=>whnf))|(with_reducible refine st_nilX ?_)|(((with_reducible refine NH.mk ?s ?_);case s=>(and_intros<;>first|((with_reducible refine gLen ?_);rfl)|omega))<;>(conv=>whnf))|(with_reducible first|refine st_seqX ?_|refine st_regionX ?_|refine st_retX ?_|refine st_thenX ?_)|((with_reducible refine gRX ?_);(refine st_retX_ret rfl ?_;intro K hK;(conv=>whnf)))|((with_reducible refine gFX ?_);(refine st_funcX rfl ?_;intro K hK;(conv=>whnf)))|((intro _;skip)<;>(conv=>whnf))))
        (conv=>whnf)
        (repeat' (first|(with_reducible (refine hK _ _ ?_;clear hP hK Kp K))|((with_reducible refine st_opX ?_);intro K Kp hK hP;(conv=>whnf))|(with_reducible refine st_nilX ?_)|(((with_reducible refine NH.mk ?s ?_);case s=>(and_intros<;>with_reducible rfl))<;>(conv=>whnf))|(with_reducible first|refine st_blockX ?_|refine st_thenX ?_)))
        rename_i b7
        refine st_autoX (α:=Nat × Heap × List UInt8 × Nat × List Int)
          (fun (i,G,t,n,es)=>i≤6∧es.length=i∧G9.le G∧n+t.length≤tx.length+1∧t.length≤tx.length∧res=Su.bind (Su.tails (Su.wEnds.drop i) es (Su.sp 10 t) n) fun f ls n=>Su.done (Su.cfg [sw] acc hc (wc.map (·.1)) st f) ls n)
          (fun (i,G,t,n,es)=>[.keep,.keep,.keep,.keep,.keep,.keep,.keep,.keep,.keep,.keep,.drop,.drop,.keep,.keep,.keep,.keep,.keep,.keep,.keep,.keep,.keep,.keep,.keep,.keep,.keep,.keep,.keep,.keep,.keep,.keep,.keep,.keep,.keep,.keep,.keep,.keep,.keep,.keep,.keep,.keep,.keep,.keep,.keep,.keep,.keep,.keep,.keep,.keep,.keep,.keep,.keep,.keep,.keep,.keep,.keep,.keep,.keep,.keep,.keep,.keep,.keep,.keep,.keep,.keep,.keep,.keep,.keep,.keep,.keep,.keep,.keep,.keep,.keep,.keep,.keep,.keep,.keep,.keep,.keep,.keep,.keep,.keep,.keep,.keep,.keep,.keep,.keep,.keep,.keep,.keep,.keep,.keep,.keep,.keep,.keep,.keep,.keep,.keep,.keep,.keep,.keep,.keep,.set (.int .i64 i),.drop,.drop,.drop,.drop,.drop,.drop,.drop,.drop,.drop,.drop,.drop,.drop,.drop,.drop,.drop,.keep,.keep,.keep,.keep,.keep,.keep,.keep,.keep])
          (fun (i,G,t,n,es)=>[.set (hpB G),.set (Su.rB b t n),.keep,.set ⟨⟨b3,0,none⟩,[.int .i64 sw,.sl 4 u acc.length,.sl 5 w hc.length,.sl 6 y wc.length,.hs v9 st.length,.int .i64 (es.getD 0 0),.int .i64 (es.getD 1 0),.int .i64 (es.getD 2 0),.int .i64 (es.getD 3 0),.int .i64 (es.getD 4 0),.int .i64 (es.getD 5 0)],.var 29⟩])
          (fun (i,G,t,n,es)=>6 - i) (0,G9,t9,n8+1,[]) ⟨by decide,rfl,Heap.le_refl _,by omega,by omega,hs5⟩ ?_ ?_ ?_
        · repeat (first|exact FitsSl.nil|refine FitsSl.any ?_|refine FitsSl.cons (Fit1.int (by first | rfl | omega)) ?_|refine FitsSl.cons (Fit1.bool rfl) ?_|refine FitsSl.cons (Fit1.same (by intro h;cases h) (by with_reducible rfl)) ?_)
        · exact MemFits.congr rfl
        (intro ⟨i,G10,t10,n10,es⟩ ⟨f1,f2,f3,f4,f5,f6⟩;intro K hK;(conv=>whnf);refine hK _ _ ?_;clear hK K)
        dsimp only at f1 f2 f3 f4 f5 f6 ⊢
        have hG10:=(q1.trans h3).trans f3
        have cmE:=fun wd=>must40_c G10 (hT.mono hG10) (hE.mono hG10) b t10 (by omega) n10 (by omega) wd 1 (some 1) (.inr ⟨by decide,by decide,rfl⟩)
        have cmE:=fun wd=>(cmE wd).mono (K':=fun r m=>∃ x t2 G v,(Su.must wd (some 1) (Su.sp 10 t10) n10 = .ok [x] (Su.sp 10 t2) (n10+1)∧t2.length<t10.length∧G10.le G∧SlOk v 1∧G.c ((addrOf v).add 0) (.int .i64 x))∧r = .hs v 1∧m=[hpB G,Su.rB b t2 (n10+1)]) (fun r m ⟨xs,t2,G,v,h1,h2,h3,h4,h5,h6⟩=>by
          have hl:xs.length=1:=by
            unfold Su.must at h1
            split at h1
            · rename_i x r e
              cases h1
              exact Su.ints_len e
            · cases h1
          match xs,hl with
          | [x],_=>exact ⟨x,t2,G,v,⟨h1,h2,h3,h4.ok,Su.int_at h4 (i:=0) rfl⟩,h5,h6⟩) (fun ch m h=>h)
        have cr:=rest40_c 3 8 b3
        have htl:∀ wd ws,Su.tails (wd::ws) es (Su.sp 10 t10) n10=Su.bind (Su.must wd (some 1) (Su.sp 10 t10) n10) fun x r k=>Su.tails ws (es++[x.getD 0 0]) r k:=fun _ _=>rfl
        unfold Su.rB at cmE
        rcases es with _ | ⟨e0,_ | ⟨e1,_ | ⟨e2,_ | ⟨e3,_ | ⟨e4,_ | ⟨e5,es⟩⟩⟩⟩⟩⟩
        · obtain rfl:i=0:=f2.symm
          have f6:res=Su.bind (Su.tails ([114,97,116,101]::[[114,111,111,109],[119,105,100,101],[108,101,97,100],[109,97,114,103,105,110],[114,101,116,114,121]]) [] (Su.sp 10 t10) n10) fun f ls n=>Su.done (Su.cfg [sw] acc hc (wc.map (·.1)) st f) ls n:=f6
          rw [htl] at f6
          have cm:=cmE [114,97,116,101]
          clear cmE htl
          (repeat' (first|(with_reducible first|(refine hK _ _ ?_;clear hP hK Kp K)|(refine hP _ _ ?_;clear hP hK Kp K))|(with_reducible first|(refine hA ?_;clear hA hB A B)|(refine hK _ ?_;clear hK K))|((with_reducible refine gOX ?_);(first|((with_reducible refine st_opX ?_);intro K Kp hK hP;(conv=>whnf))|(with_reducible refine st_nilX ?_)))|((first|((with_reducible refine gV ?_);(((with_reducible refine NV.i64 ?s ?_);case s=>omega)))|((with_reducible refine gI ?_);(((with_reducible refine NIf.decY ?s ?_);case s=>omega)))|((with_reducible refine gN ?_);(with_reducible first|refine NN.lit ?_|refine NN.cast ?_|refine NN.a2 ?_))|((with_reducible refine gH ?_);((with_reducible refine NH.mk ?s ?_);case s=>(and_intros<;>first|with_reducible rfl|((with_reducible refine gOnes ?_);rfl)|((with_reducible refine gLen ?_);rfl)|((with_reducible refine gKept ?_);exact rfl)|omega)))|((with_reducible refine gCX ?_);(first|((with_reducible refine NCallX.isF 39 ?_);refine NCallX.subw [0,1] _ _ (cm) rfl (by decide) rfl ?_ ?_;((rintro _ _ ⟨x,t11,G11,v11,⟨k1,k2,k3,k4,k5⟩,rfl,rfl⟩)<;>refine ⟨Nat.le_of_ble_eq_true rfl,_,rfl,?_⟩);rotate_right;((rintro _ _ ⟨k1,rfl,G11,t11,k3,rfl⟩)<;>refine ⟨Nat.le_of_ble_eq_true rfl,?_⟩))|(refine NCallX.of ?_;(((with_reducible refine NCall.isF 26 ?_);refine NCall.subw [3] _ _ (cr _ _ _ _ _ _ _ _ _ _ _) rfl (by decide) rfl ?_;rintro _ _ ⟨g,rfl,rfl⟩;refine ⟨Nat.le_of_ble_eq_true rfl,_,rfl,?_⟩)))))|(with_reducible refine NLd.of (by with_reducible assumption) ?_))<;>(conv=>whnf))|((with_reducible refine gNOY ?_);(first|(refine st_ordY1 rfl (by kernel_rfl) rfl ?_;intro K hK;(conv=>whnf))|(refine st_ordY0 rfl (by kernel_rfl) ?_)|(refine st_ordYA rfl rfl (by kernel_rfl) (by intro h;cases h) ?_)))|((with_reducible refine gNEY ?_);(first|(refine st_eachY ?_ ?_;(intro K Kp hK hP;(conv=>whnf)))|exact st_eachY0))|((with_reducible refine gXX ?_);(first|(with_reducible first|refine st_seqX ?_|refine st_regionX ?_|refine st_blockX ?_|refine st_skipX ?_)|((with_reducible refine st_condX ?_);intro A B hA hB;(conv=>whnf))|(refine st_orderY [0,1,3] rfl rfl (by kernel_rfl) _ rfl (fun _ _ _ _ h=>h) ?_)))|(with_reducible first|refine z9 ?_|refine st_thenX ?_|refine st_thenX_panic ?_|refine st_block_panic ?_|refine st_round_panic ?_)|((with_reducible refine gRX ?_);((with_reducible refine st_retX_panic ?_)))))
          all_goals try exact ⟨n10,by rw [f6,k1];rfl,rfl,G11,t11,_,hG10.trans k3,MemFits.pre 2 rfl⟩
          all_goals
            rw [k1] at f6
            refine st_round (1,G11,t11,n10+1,[x]) ⟨by show 1≤6;decide,rfl,f3.trans k3,by show n10+1+t11.length≤tx.length+1;omega,by show t11.length≤tx.length;omega,f6⟩ (by show 6 - 1<6 - 0;decide) ?_ (MemFits.pre 8 rfl)
            dsimp only
            repeat (first|exact FitsSl.nil|refine FitsSl.any ?_|refine FitsSl.cons (Fit1.int (by first | rfl | omega)) ?_|refine FitsSl.cons (Fit1.bool rfl) ?_|refine FitsSl.cons (Fit1.same (by intro h;cases h) (by with_reducible rfl)) ?_)
        · obtain rfl:i=1:=f2.symm
          have f6:res=Su.bind (Su.tails ([114,111,111,109]::[[119,105,100,101],[108,101,97,100],[109,97,114,103,105,110],[114,101,116,114,121]]) [e0] (Su.sp 10 t10) n10) fun f ls n=>Su.done (Su.cfg [sw] acc hc (wc.map (·.1)) st f) ls n:=f6
          rw [htl] at f6
          have cm:=cmE [114,111,111,109]
          clear cmE htl
          (repeat' (first|(with_reducible first|(refine hK _ _ ?_;clear hP hK Kp K)|(refine hP _ _ ?_;clear hP hK Kp K))|(with_reducible first|(refine hA ?_;clear hA hB A B)|(refine hK _ ?_;clear hK K))|((with_reducible refine gOX ?_);(first|((with_reducible refine st_opX ?_);intro K Kp hK hP;(conv=>whnf))|(with_reducible refine st_nilX ?_)))|((first|((with_reducible refine gV ?_);(((with_reducible refine NV.i64 ?s ?_);case s=>omega)))|((with_reducible refine gI ?_);(((with_reducible refine NIf.decY ?s ?_);case s=>omega)))|((with_reducible refine gN ?_);(with_reducible first|refine NN.lit ?_|refine NN.cast ?_|refine NN.a2 ?_))|((with_reducible refine gH ?_);((with_reducible refine NH.mk ?s ?_);case s=>(and_intros<;>first|with_reducible rfl|((with_reducible refine gOnes ?_);rfl)|((with_reducible refine gLen ?_);rfl)|((with_reducible refine gKept ?_);exact rfl)|omega)))|((with_reducible refine gCX ?_);(first|((with_reducible refine NCallX.isF 39 ?_);refine NCallX.subw [0,1] _ _ (cm) rfl (by decide) rfl ?_ ?_;((rintro _ _ ⟨x,t11,G11,v11,⟨k1,k2,k3,k4,k5⟩,rfl,rfl⟩)<;>refine ⟨Nat.le_of_ble_eq_true rfl,_,rfl,?_⟩);rotate_right;((rintro _ _ ⟨k1,rfl,G11,t11,k3,rfl⟩)<;>refine ⟨Nat.le_of_ble_eq_true rfl,?_⟩))|(refine NCallX.of ?_;(((with_reducible refine NCall.isF 26 ?_);refine NCall.subw [3] _ _ (cr _ _ _ _ _ _ _ _ _ _ _) rfl (by decide) rfl ?_;rintro _ _ ⟨g,rfl,rfl⟩;refine ⟨Nat.le_of_ble_eq_true rfl,_,rfl,?_⟩)))))|(with_reducible refine NLd.of (by with_reducible assumption) ?_))<;>(conv=>whnf))|((with_reducible refine gNOY ?_);(first|(refine st_ordY1 rfl (by kernel_rfl) rfl ?_;intro K hK;(conv=>whnf))|(refine st_ordY0 rfl (by kernel_rfl) ?_)|(refine st_ordYA rfl rfl (by kernel_rfl) (by intro h;cases h) ?_)))|((with_reducible refine gNEY ?_);(first|(refine st_eachY ?_ ?_;(intro K Kp hK hP;(conv=>whnf)))|exact st_eachY0))|((with_reducible refine gXX ?_);(first|(with_reducible first|refine st_seqX ?_|refine st_regionX ?_|refine st_blockX ?_|refine st_skipX ?_)|((with_reducible refine st_condX ?_);intro A B hA hB;(conv=>whnf))|(refine st_orderY [0,1,3] rfl rfl (by kernel_rfl) _ rfl (fun _ _ _ _ h=>h) ?_)))|(with_reducible first|refine z9 ?_|refine st_thenX ?_|refine st_thenX_panic ?_|refine st_block_panic ?_|refine st_round_panic ?_)|((with_reducible refine gRX ?_);((with_reducible refine st_retX_panic ?_)))))
          all_goals try exact ⟨n10,by rw [f6,k1];rfl,rfl,G11,t11,_,hG10.trans k3,MemFits.pre 2 rfl⟩
          all_goals
            rw [k1] at f6
            refine st_round (2,G11,t11,n10+1,[e0,x]) ⟨by show 2≤6;decide,rfl,f3.trans k3,by show n10+1+t11.length≤tx.length+1;omega,by show t11.length≤tx.length;omega,f6⟩ (by show 6 - 2<6 - 1;decide) ?_ (MemFits.pre 8 rfl)
            dsimp only
            repeat (first|exact FitsSl.nil|refine FitsSl.any ?_|refine FitsSl.cons (Fit1.int (by first | rfl | omega)) ?_|refine FitsSl.cons (Fit1.bool rfl) ?_|refine FitsSl.cons (Fit1.same (by intro h;cases h) (by with_reducible rfl)) ?_)
        · obtain rfl:i=2:=f2.symm
          have f6:res=Su.bind (Su.tails ([119,105,100,101]::[[108,101,97,100],[109,97,114,103,105,110],[114,101,116,114,121]]) [e0,e1] (Su.sp 10 t10) n10) fun f ls n=>Su.done (Su.cfg [sw] acc hc (wc.map (·.1)) st f) ls n:=f6
          rw [htl] at f6
          have cm:=cmE [119,105,100,101]
          clear cmE htl
          (repeat' (first|(with_reducible first|(refine hK _ _ ?_;clear hP hK Kp K)|(refine hP _ _ ?_;clear hP hK Kp K))|(with_reducible first|(refine hA ?_;clear hA hB A B)|(refine hK _ ?_;clear hK K))|((with_reducible refine gOX ?_);(first|((with_reducible refine st_opX ?_);intro K Kp hK hP;(conv=>whnf))|(with_reducible refine st_nilX ?_)))|((first|((with_reducible refine gV ?_);(((with_reducible refine NV.i64 ?s ?_);case s=>omega)))|((with_reducible refine gI ?_);(((with_reducible refine NIf.decY ?s ?_);case s=>omega)))|((with_reducible refine gN ?_);(with_reducible first|refine NN.lit ?_|refine NN.cast ?_|refine NN.a2 ?_))|((with_reducible refine gH ?_);((with_reducible refine NH.mk ?s ?_);case s=>(and_intros<;>first|with_reducible rfl|((with_reducible refine gOnes ?_);rfl)|((with_reducible refine gLen ?_);rfl)|((with_reducible refine gKept ?_);exact rfl)|omega)))|((with_reducible refine gCX ?_);(first|((with_reducible refine NCallX.isF 39 ?_);refine NCallX.subw [0,1] _ _ (cm) rfl (by decide) rfl ?_ ?_;((rintro _ _ ⟨x,t11,G11,v11,⟨k1,k2,k3,k4,k5⟩,rfl,rfl⟩)<;>refine ⟨Nat.le_of_ble_eq_true rfl,_,rfl,?_⟩);rotate_right;((rintro _ _ ⟨k1,rfl,G11,t11,k3,rfl⟩)<;>refine ⟨Nat.le_of_ble_eq_true rfl,?_⟩))|(refine NCallX.of ?_;(((with_reducible refine NCall.isF 26 ?_);refine NCall.subw [3] _ _ (cr _ _ _ _ _ _ _ _ _ _ _) rfl (by decide) rfl ?_;rintro _ _ ⟨g,rfl,rfl⟩;refine ⟨Nat.le_of_ble_eq_true rfl,_,rfl,?_⟩)))))|(with_reducible refine NLd.of (by with_reducible assumption) ?_))<;>(conv=>whnf))|((with_reducible refine gNOY ?_);(first|(refine st_ordY1 rfl (by kernel_rfl) rfl ?_;intro K hK;(conv=>whnf))|(refine st_ordY0 rfl (by kernel_rfl) ?_)|(refine st_ordYA rfl rfl (by kernel_rfl) (by intro h;cases h) ?_)))|((with_reducible refine gNEY ?_);(first|(refine st_eachY ?_ ?_;(intro K Kp hK hP;(conv=>whnf)))|exact st_eachY0))|((with_reducible refine gXX ?_);(first|(with_reducible first|refine st_seqX ?_|refine st_regionX ?_|refine st_blockX ?_|refine st_skipX ?_)|((with_reducible refine st_condX ?_);intro A B hA hB;(conv=>whnf))|(refine st_orderY [0,1,3] rfl rfl (by kernel_rfl) _ rfl (fun _ _ _ _ h=>h) ?_)))|(with_reducible first|refine z9 ?_|refine st_thenX ?_|refine st_thenX_panic ?_|refine st_block_panic ?_|refine st_round_panic ?_)|((with_reducible refine gRX ?_);((with_reducible refine st_retX_panic ?_)))))
          all_goals try exact ⟨n10,by rw [f6,k1];rfl,rfl,G11,t11,_,hG10.trans k3,MemFits.pre 2 rfl⟩
          all_goals
            rw [k1] at f6
            refine st_round (3,G11,t11,n10+1,[e0,e1,x]) ⟨by show 3≤6;decide,rfl,f3.trans k3,by show n10+1+t11.length≤tx.length+1;omega,by show t11.length≤tx.length;omega,f6⟩ (by show 6 - 3<6 - 2;decide) ?_ (MemFits.pre 8 rfl)
            dsimp only
            repeat (first|exact FitsSl.nil|refine FitsSl.any ?_|refine FitsSl.cons (Fit1.int (by first | rfl | omega)) ?_|refine FitsSl.cons (Fit1.bool rfl) ?_|refine FitsSl.cons (Fit1.same (by intro h;cases h) (by with_reducible rfl)) ?_)
        · obtain rfl:i=3:=f2.symm
          have f6:res=Su.bind (Su.tails ([108,101,97,100]::[[109,97,114,103,105,110],[114,101,116,114,121]]) [e0,e1,e2] (Su.sp 10 t10) n10) fun f ls n=>Su.done (Su.cfg [sw] acc hc (wc.map (·.1)) st f) ls n:=f6
          rw [htl] at f6
          have cm:=cmE [108,101,97,100]
          clear cmE htl
          (repeat' (first|(with_reducible first|(refine hK _ _ ?_;clear hP hK Kp K)|(refine hP _ _ ?_;clear hP hK Kp K))|(with_reducible first|(refine hA ?_;clear hA hB A B)|(refine hK _ ?_;clear hK K))|((with_reducible refine gOX ?_);(first|((with_reducible refine st_opX ?_);intro K Kp hK hP;(conv=>whnf))|(with_reducible refine st_nilX ?_)))|((first|((with_reducible refine gV ?_);(((with_reducible refine NV.i64 ?s ?_);case s=>omega)))|((with_reducible refine gI ?_);(((with_reducible refine NIf.decY ?s ?_);case s=>omega)))|((with_reducible refine gN ?_);(with_reducible first|refine NN.lit ?_|refine NN.cast ?_|refine NN.a2 ?_))|((with_reducible refine gH ?_);((with_reducible refine NH.mk ?s ?_);case s=>(and_intros<;>first|with_reducible rfl|((with_reducible refine gOnes ?_);rfl)|((with_reducible refine gLen ?_);rfl)|((with_reducible refine gKept ?_);exact rfl)|omega)))|((with_reducible refine gCX ?_);(first|((with_reducible refine NCallX.isF 39 ?_);refine NCallX.subw [0,1] _ _ (cm) rfl (by decide) rfl ?_ ?_;((rintro _ _ ⟨x,t11,G11,v11,⟨k1,k2,k3,k4,k5⟩,rfl,rfl⟩)<;>refine ⟨Nat.le_of_ble_eq_true rfl,_,rfl,?_⟩);rotate_right;((rintro _ _ ⟨k1,rfl,G11,t11,k3,rfl⟩)<;>refine ⟨Nat.le_of_ble_eq_true rfl,?_⟩))|(refine NCallX.of ?_;(((with_reducible refine NCall.isF 26 ?_);refine NCall.subw [3] _ _ (cr _ _ _ _ _ _ _ _ _ _ _) rfl (by decide) rfl ?_;rintro _ _ ⟨g,rfl,rfl⟩;refine ⟨Nat.le_of_ble_eq_true rfl,_,rfl,?_⟩)))))|(with_reducible refine NLd.of (by with_reducible assumption) ?_))<;>(conv=>whnf))|((with_reducible refine gNOY ?_);(first|(refine st_ordY1 rfl (by kernel_rfl) rfl ?_;intro K hK;(conv=>whnf))|(refine st_ordY0 rfl (by kernel_rfl) ?_)|(refine st_ordYA rfl rfl (by kernel_rfl) (by intro h;cases h) ?_)))|((with_reducible refine gNEY ?_);(first|(refine st_eachY ?_ ?_;(intro K Kp hK hP;(conv=>whnf)))|exact st_eachY0))|((with_reducible refine gXX ?_);(first|(with_reducible first|refine st_seqX ?_|refine st_regionX ?_|refine st_blockX ?_|refine st_skipX ?_)|((with_reducible refine st_condX ?_);intro A B hA hB;(conv=>whnf))|(refine st_orderY [0,1,3] rfl rfl (by kernel_rfl) _ rfl (fun _ _ _ _ h=>h) ?_)))|(with_reducible first|refine z9 ?_|refine st_thenX ?_|refine st_thenX_panic ?_|refine st_block_panic ?_|refine st_round_panic ?_)|((with_reducible refine gRX ?_);((with_reducible refine st_retX_panic ?_)))))
          all_goals try exact ⟨n10,by rw [f6,k1];rfl,rfl,G11,t11,_,hG10.trans k3,MemFits.pre 2 rfl⟩
          all_goals
            rw [k1] at f6
            refine st_round (4,G11,t11,n10+1,[e0,e1,e2,x]) ⟨by show 4≤6;decide,rfl,f3.trans k3,by show n10+1+t11.length≤tx.length+1;omega,by show t11.length≤tx.length;omega,f6⟩ (by show 6 - 4<6 - 3;decide) ?_ (MemFits.pre 8 rfl)
            dsimp only
            repeat (first|exact FitsSl.nil|refine FitsSl.any ?_|refine FitsSl.cons (Fit1.int (by first | rfl | omega)) ?_|refine FitsSl.cons (Fit1.bool rfl) ?_|refine FitsSl.cons (Fit1.same (by intro h;cases h) (by with_reducible rfl)) ?_)
        · obtain rfl:i=4:=f2.symm
          have f6:res=Su.bind (Su.tails ([109,97,114,103,105,110]::[[114,101,116,114,121]]) [e0,e1,e2,e3] (Su.sp 10 t10) n10) fun f ls n=>Su.done (Su.cfg [sw] acc hc (wc.map (·.1)) st f) ls n:=f6
          rw [htl] at f6
          have cm:=cmE [109,97,114,103,105,110]
          clear cmE htl
          (repeat' (first|(with_reducible first|(refine hK _ _ ?_;clear hP hK Kp K)|(refine hP _ _ ?_;clear hP hK Kp K))|(with_reducible first|(refine hA ?_;clear hA hB A B)|(refine hK _ ?_;clear hK K))|((with_reducible refine gOX ?_);(first|((with_reducible refine st_opX ?_);intro K Kp hK hP;(conv=>whnf))|(with_reducible refine st_nilX ?_)))|((first|((with_reducible refine gV ?_);(((with_reducible refine NV.i64 ?s ?_);case s=>omega)))|((with_reducible refine gI ?_);(((with_reducible refine NIf.decY ?s ?_);case s=>omega)))|((with_reducible refine gN ?_);(with_reducible first|refine NN.lit ?_|refine NN.cast ?_|refine NN.a2 ?_))|((with_reducible refine gH ?_);((with_reducible refine NH.mk ?s ?_);case s=>(and_intros<;>first|with_reducible rfl|((with_reducible refine gOnes ?_);rfl)|((with_reducible refine gLen ?_);rfl)|((with_reducible refine gKept ?_);exact rfl)|omega)))|((with_reducible refine gCX ?_);(first|((with_reducible refine NCallX.isF 39 ?_);refine NCallX.subw [0,1] _ _ (cm) rfl (by decide) rfl ?_ ?_;((rintro _ _ ⟨x,t11,G11,v11,⟨k1,k2,k3,k4,k5⟩,rfl,rfl⟩)<;>refine ⟨Nat.le_of_ble_eq_true rfl,_,rfl,?_⟩);rotate_right;((rintro _ _ ⟨k1,rfl,G11,t11,k3,rfl⟩)<;>refine ⟨Nat.le_of_ble_eq_true rfl,?_⟩))|(refine NCallX.of ?_;(((with_reducible refine NCall.isF 26 ?_);refine NCall.subw [3] _ _ (cr _ _ _ _ _ _ _ _ _ _ _) rfl (by decide) rfl ?_;rintro _ _ ⟨g,rfl,rfl⟩;refine ⟨Nat.le_of_ble_eq_true rfl,_,rfl,?_⟩)))))|(with_reducible refine NLd.of (by with_reducible assumption) ?_))<;>(conv=>whnf))|((with_reducible refine gNOY ?_);(first|(refine st_ordY1 rfl (by kernel_rfl) rfl ?_;intro K hK;(conv=>whnf))|(refine st_ordY0 rfl (by kernel_rfl) ?_)|(refine st_ordYA rfl rfl (by kernel_rfl) (by intro h;cases h) ?_)))|((with_reducible refine gNEY ?_);(first|(refine st_eachY ?_ ?_;(intro K Kp hK hP;(conv=>whnf)))|exact st_eachY0))|((with_reducible refine gXX ?_);(first|(with_reducible first|refine st_seqX ?_|refine st_regionX ?_|refine st_blockX ?_|refine st_skipX ?_)|((with_reducible refine st_condX ?_);intro A B hA hB;(conv=>whnf))|(refine st_orderY [0,1,3] rfl rfl (by kernel_rfl) _ rfl (fun _ _ _ _ h=>h) ?_)))|(with_reducible first|refine z9 ?_|refine st_thenX ?_|refine st_thenX_panic ?_|refine st_block_panic ?_|refine st_round_panic ?_)|((with_reducible refine gRX ?_);((with_reducible refine st_retX_panic ?_)))))
          all_goals try exact ⟨n10,by rw [f6,k1];rfl,rfl,G11,t11,_,hG10.trans k3,MemFits.pre 2 rfl⟩
          all_goals
            rw [k1] at f6
            refine st_round (5,G11,t11,n10+1,[e0,e1,e2,e3,x]) ⟨by show 5≤6;decide,rfl,f3.trans k3,by show n10+1+t11.length≤tx.length+1;omega,by show t11.length≤tx.length;omega,f6⟩ (by show 6 - 5<6 - 4;decide) ?_ (MemFits.pre 8 rfl)
            dsimp only
            repeat (first|exact FitsSl.nil|refine FitsSl.any ?_|refine FitsSl.cons (Fit1.int (by first | rfl | omega)) ?_|refine FitsSl.cons (Fit1.bool rfl) ?_|refine FitsSl.cons (Fit1.same (by intro h;cases h) (by with_reducible rfl)) ?_)
        · obtain rfl:i=5:=f2.symm
          have f6:res=Su.bind (Su.tails ([114,101,116,114,121]::[]) [e0,e1,e2,e3,e4] (Su.sp 10 t10) n10) fun f ls n=>Su.done (Su.cfg [sw] acc hc (wc.map (·.1)) st f) ls n:=f6
          rw [htl] at f6
          have cm:=cmE [114,101,116,114,121]
          clear cmE htl
          (repeat' (first|(with_reducible first|(refine hK _ _ ?_;clear hP hK Kp K)|(refine hP _ _ ?_;clear hP hK Kp K))|(with_reducible first|(refine hA ?_;clear hA hB A B)|(refine hK _ ?_;clear hK K))|((with_reducible refine gOX ?_);(first|((with_reducible refine st_opX ?_);intro K Kp hK hP;(conv=>whnf))|(with_reducible refine st_nilX ?_)))|((first|((with_reducible refine gV ?_);(((with_reducible refine NV.i64 ?s ?_);case s=>omega)))|((with_reducible refine gI ?_);(((with_reducible refine NIf.decY ?s ?_);case s=>omega)))|((with_reducible refine gN ?_);(with_reducible first|refine NN.lit ?_|refine NN.cast ?_|refine NN.a2 ?_))|((with_reducible refine gH ?_);((with_reducible refine NH.mk ?s ?_);case s=>(and_intros<;>first|with_reducible rfl|((with_reducible refine gOnes ?_);rfl)|((with_reducible refine gLen ?_);rfl)|((with_reducible refine gKept ?_);exact rfl)|omega)))|((with_reducible refine gCX ?_);(first|((with_reducible refine NCallX.isF 39 ?_);refine NCallX.subw [0,1] _ _ (cm) rfl (by decide) rfl ?_ ?_;((rintro _ _ ⟨x,t11,G11,v11,⟨k1,k2,k3,k4,k5⟩,rfl,rfl⟩)<;>refine ⟨Nat.le_of_ble_eq_true rfl,_,rfl,?_⟩);rotate_right;((rintro _ _ ⟨k1,rfl,G11,t11,k3,rfl⟩)<;>refine ⟨Nat.le_of_ble_eq_true rfl,?_⟩))|(refine NCallX.of ?_;(((with_reducible refine NCall.isF 26 ?_);refine NCall.subw [3] _ _ (cr _ _ _ _ _ _ _ _ _ _ _) rfl (by decide) rfl ?_;rintro _ _ ⟨g,rfl,rfl⟩;refine ⟨Nat.le_of_ble_eq_true rfl,_,rfl,?_⟩)))))|(with_reducible refine NLd.of (by with_reducible assumption) ?_))<;>(conv=>whnf))|((with_reducible refine gNOY ?_);(first|(refine st_ordY1 rfl (by kernel_rfl) rfl ?_;intro K hK;(conv=>whnf))|(refine st_ordY0 rfl (by kernel_rfl) ?_)|(refine st_ordYA rfl rfl (by kernel_rfl) (by intro h;cases h) ?_)))|((with_reducible refine gNEY ?_);(first|(refine st_eachY ?_ ?_;(intro K Kp hK hP;(conv=>whnf)))|exact st_eachY0))|((with_reducible refine gXX ?_);(first|(with_reducible first|refine st_seqX ?_|refine st_regionX ?_|refine st_blockX ?_|refine st_skipX ?_)|((with_reducible refine st_condX ?_);intro A B hA hB;(conv=>whnf))|(refine st_orderY [0,1,3] rfl rfl (by kernel_rfl) _ rfl (fun _ _ _ _ h=>h) ?_)))|(with_reducible first|refine z9 ?_|refine st_thenX ?_|refine st_thenX_panic ?_|refine st_block_panic ?_|refine st_round_panic ?_)|((with_reducible refine gRX ?_);((with_reducible refine st_retX_panic ?_)))))
          all_goals try exact ⟨n10,by rw [f6,k1];rfl,rfl,G11,t11,_,hG10.trans k3,MemFits.pre 2 rfl⟩
          all_goals
            rw [k1] at f6
            refine st_round (6,G11,t11,n10+1,[e0,e1,e2,e3,e4,x]) ⟨by show 6≤6;decide,rfl,f3.trans k3,by show n10+1+t11.length≤tx.length+1;omega,by show t11.length≤tx.length;omega,f6⟩ (by show 6 - 6<6 - 5;decide) ?_ (MemFits.pre 8 rfl)
            dsimp only
            repeat (first|exact FitsSl.nil|refine FitsSl.any ?_|refine FitsSl.cons (Fit1.int (by first | rfl | omega)) ?_|refine FitsSl.cons (Fit1.bool rfl) ?_|refine FitsSl.cons (Fit1.same (by intro h;cases h) (by with_reducible rfl)) ?_)
        · obtain rfl:es=[]:=List.eq_nil_of_length_eq_zero (by simp only [List.length_cons] at f2;omega)
          obtain rfl:i=6:=f2.symm
          have f6:res=Su.done (Su.cfg [sw] acc hc (wc.map (·.1)) st [e0,e1,e2,e3,e4,e5]) (Su.sp 10 t10) n10:=f6
          clear cmE htl
          have cf:=fail40_c b t10 n10
          unfold Su.rB at cf
          by_cases ht:t10=[]
          · subst ht
            have f6:res = .ok (Su.cfg [sw] acc hc (wc.map (·.1)) st [e0,e1,e2,e3,e4,e5]) (Su.sp 10 []) n10:=f6
            (repeat' (first|(with_reducible first|(refine hK _ _ ?_;clear hP hK Kp K)|(refine hB ?_;clear hA hB A B)|(refine hK _ ?_;clear hK K))|((with_reducible refine st_opX ?_);intro K Kp hK hP;(conv=>whnf))|(with_reducible refine st_nilX ?_)|((first|with_reducible refine NIf.not_ ?_|((with_reducible refine NIf.decY ?s ?_);case s=>with_reducible rfl)|((with_reducible refine NIf.decN ?s ?_);case s=>omega)|(with_reducible refine NN.a5 ?_)|((with_reducible refine NH.mk ?s ?_);case s=>(and_intros<;>first|with_reducible rfl|((with_reducible refine gOnes ?_);rfl)|((with_reducible refine gLen ?_);rfl)|rfl)))<;>(conv=>whnf))|(with_reducible first|refine st_seqX ?_|refine st_regionX ?_|refine st_skipX ?_|refine st_exitX ?_|refine st_retX ?_)|((with_reducible refine st_condX ?_);intro A B hA hB;(conv=>whnf))|(with_reducible first|refine z10 ?_|refine z19 ?_|refine st_thenX ?_|refine st_thenX_exit ?_)|((with_reducible refine gRX ?_);(refine st_retX_ret rfl ?_;intro K hK;(conv=>whnf)))))
            all_goals exact ⟨_,_,_,G10,u,w,y,v9,[],n10,wc,f6,hG10,rfl,fun p hp=>RowF.mono (h3.trans f3) (fun _ _ h=>h) (q4 p hp),RowF.mono f3 (fun _ _ h=>h) h4,by unfold Su.cs Su.cfg;rw [List.length_map];rfl,MemFits.pick [0,4,5,6,1] (by decide) rfl⟩
          · have f6:res = .bad n10:=by
              rw [f6]
              refine if_neg fun h=>ht ?_
              have:=Su.jn_sp 10 t10
              rw [h] at this
              exact this.symm
            (repeat' (first|(with_reducible first|(refine hK _ _ ?_;clear hP hK Kp K)|(refine hP _ _ ?_;clear hP hK Kp K))|(with_reducible first|(refine hA ?_;clear hA hB A B)|(refine hB ?_;clear hA hB A B))|((with_reducible refine gOX ?_);(first|((with_reducible refine st_opX ?_);intro K Kp hK hP;(conv=>whnf))|(with_reducible refine st_nilX ?_)))|((first|((with_reducible refine gI ?_);(first|(((with_reducible refine NIf.yes ?s ?_);case s=>(simp [ht];done)))|(((with_reducible refine NIf.no ?s ?_);case s=>(simp [ht];done)))))|((with_reducible refine gN ?_);(with_reducible refine NN.a5 ?_))|((with_reducible refine gH ?_);((with_reducible refine NH.mk ?s ?_);case s=>(and_intros<;>rfl)))|((with_reducible refine gCX ?_);((with_reducible refine NCallX.isF 42 ?_);refine NCallX.subw [1] _ _ (cf) rfl (by decide) rfl ?_ ?_;((rintro _ _ ⟨⟩)<;>refine ⟨Nat.le_of_ble_eq_true rfl,_,rfl,?_⟩);rotate_right;((rintro _ _ ⟨rfl,rfl⟩)<;>refine ⟨Nat.le_of_ble_eq_true rfl,?_⟩))))<;>(conv=>whnf))|((with_reducible refine gXX ?_);(first|(with_reducible first|refine st_seqX ?_|refine st_regionX ?_|refine st_exitX ?_)|((with_reducible refine st_condX ?_);intro A B hA hB;(conv=>whnf))))|(with_reducible first|refine z10 ?_|refine z19 ?_|refine st_thenX ?_|refine st_thenX_exit ?_|refine st_thenX_panic ?_)|((with_reducible refine gRX ?_);((with_reducible refine st_retX_panic ?_)))))
            all_goals exact ⟨n10,f6,rfl,G10,t10,_,hG10,MemFits.pre 2 rfl⟩
end Go.Proofs.YtgphhbadnjfbjaaDoor
