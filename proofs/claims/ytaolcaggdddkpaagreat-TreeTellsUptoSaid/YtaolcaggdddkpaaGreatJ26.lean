import Derived.Test.YtaolcaggdddkpaaGreatJ22
import Derived.Test.YtaolcaggdddkpaaGreatJ17
import Derived.Test.YtaolcaggdddkpaaGreatJ23
import Derived.Test.YtaolcaggdddkpaaGreatJ25
import Derived.Test.YtaolcaggdddkpaaGreatJ18
import Derived.Test.YtaolcaggdddkpaaGreatJ16
namespace Go.Proofs.YtaolcaggdddkpaaGreat
open Go.Sx
set_option maxRecDepth 20000
set_option linter.unusedSimpArgs false
set_option linter.unusedVariables false
set_option maxHeartbeats 4000000
namespace Po
def cellsN (x:T):Nat→Nat
 | 0=>1
 | i+1=>min (cellsN x i*((values i x).length+1)) 100000
def cells (x:T):Nat:=cellsN x 5
theorem cellsN_le (x:T):∀ i,cellsN x i≤100000
 | 0=>by simp [cellsN]
 | i+1=>by rw [cellsN];omega
end Po
section
variable (F:Heap)
end
theorem cells27_c (F:Heap) (x:Po.T) (pu u:Value) (hs:Po.tot x≤2932031007402) (hx:Po.At F x pu u):NCall Tryz.prog 25 [.agg (Po.cs x pu u)] [hpB F] fun r m=>r = .int .i64 (Po.cells x:Nat)∧m=[hpB F]:=by
 refine NCall.fits (K:=fun r m=>r = .int .i64 (Po.cells x:Nat)∧∃ F',F.le F'∧MemFits m [hpB F']) ?_ fun r m' ⟨h1,F',h2,h3⟩=>⟨r,_,rfl,h3.trans (MemFits.less h2 []),h1,rfl⟩
 have hok:=hx.l.ok
 have hpok:=hx.p.ok
 have cv:=fun (G:Heap) (hG:F.le G) (f:Nat) (hf:f≤5)=>Values27_c G x pu u f (by omega) hs (Po.At.mono hG hx)
 have hcl:=Po.cellsN_le x
 have hvl:=fun f=>Po.values_len f x
 unfold Po.cells
 have hnx:∀ i,Po.cellsN x (i+1)=min (Po.cellsN x i*((Po.values i x).length+1)) 100000:=fun i=>by rw [Po.cellsN]
 have hbig:∀ i,Po.cellsN x i*((Po.values i x).length+1)≤293203100740300000:=fun i=>by
  have h1:=hcl i
  have h2:=hvl i
  calc _≤100000*(2932031007402+1):=Nat.mul_le_mul h1 (by omega)
   _≤_:=by decide
 have h0:Po.cellsN x 0=1:=rfl
 have hlv:∀ f,(Po.values f x).length≤2932031007402:=fun f=>Nat.le_trans (hvl f) hs
 clear hx hs hvl
 generalize hC:Po.cellsN x=C at *
 obtain ⟨k,⟨pk,pf,pv,pl⟩,f,v0,l⟩:=x
 simp only [Srt.Lays,Po.cs,Po.T.k,Po.T.p,Po.T.f,Po.T.v,Po.T.l,Pd.T.k,Pd.T.f,Pd.T.v,Pd.T.l] at *
 refine ncall_of Tryz.func25 rfl (by decide) ?_
 (repeat' (first|(with_reducible first|(refine hK _ _ ?_;clear hK K)|(refine hK _ ?_;clear hK K))|((with_reducible refine z25 ?_);intro K hK;(conv=>whnf))|(with_reducible first|refine z0 ?_|refine z3 ?_|refine z4 ?_|refine z5 ?_|refine z1 ?_|refine z2 ?_)|((with_reducible refine gF ?_);(refine z33 rfl ?_;intro K hK;(conv=>whnf)))|((intro _;skip)<;>(conv=>whnf))))
 refine st_auto (α:=Heap × Nat) (fun (G,i)=>F.le G∧i≤5) (fun (G,i)=>[.keep,.keep,.keep,.set (.int .i64 (C i:Nat)),.set (.int .i64 i),.drop,.drop,.drop,.drop,.drop,.drop,.drop,.drop,.drop,.drop,.drop,.drop,.keep]) (fun (G,i)=>[.set (hpB G)]) (fun (G,i)=>5 - i) (F,0) ⟨F.le_refl,by decide⟩ ?_ (MemFits.eq rfl) ?_
 ·repeat (first|exact FitsSl.nil|refine FitsSl.any ?_|refine FitsSl.cons (Fit1.int (by  simp [h0])) ?_|refine FitsSl.cons (Fit1.same (by intro h;cases h) (by with_reducible rfl)) ?_)
 (intro ⟨G,i⟩ ⟨hle,hi⟩;intro K hK;(conv=>whnf);refine hK _ _ ?_;clear hK K)
 dsimp only
 by_cases hlt:i<5
 ·have c:=(cv G hle i (by omega)).mono (K':=fun r m=>∃ F' v,G.le F'∧SlOk v (Po.values i (.mk k (.mk pk pf pv pl) f v0 l)).length∧r = .hs v (Po.values i (.mk k (.mk pk pf pv pl) f v0 l)).length∧m=[hpB F']) fun r m ⟨F',v,h1,h2,h3,h4⟩=>⟨F',v,h1,h2.ok,h3,h4⟩
  have hn:=hnx i
  have hb:=hbig i
  have hl:=hlv i
  have hc:=hcl i
  clear cv hnx hbig hlv hcl
  generalize Po.values i (.mk k (.mk pk pf pv pl) f v0 l)=L at *
  generalize C i=c0 at *
  have hprod:((c0:Int)*((L.length:Int)+1))=((c0*(L.length+1):Nat):Int):=by push_cast;rfl
  (repeat' (first|(with_reducible first|(refine hK _ _ ?_;clear hK K)|(refine hA ?_;clear hA hB A B))|((with_reducible refine z25 ?_);intro K hK;(conv=>whnf))|(with_reducible refine z0 ?_)|((first|((with_reducible refine NV.i64 ?s ?_);case s=>omega)|(with_reducible refine NV.keep ?_)|((with_reducible refine NIf.decY ?s ?_);case s=>omega)|((with_reducible refine NH.mk ?s ?_);case s=>(and_intros<;>first|with_reducible rfl|omega))|((with_reducible refine NCall.isF 26 ?_);refine NCall.subw [0] _ _ (c) rfl (by decide) rfl ?_;rintro _ _ ⟨F',w',hle2,hok2,rfl,rfl⟩;refine ⟨Nat.le_of_ble_eq_true rfl,_,rfl,?_⟩))<;>(conv=>whnf))|(with_reducible first|refine z3 ?_|refine z4 ?_|refine z5 ?_|refine z6 ?_)|((with_reducible refine z29 ?_);intro A B hA hB;(conv=>whnf))|(with_reducible first|refine z1 ?_|refine z2 ?_|refine z9 ?_)))
  refine st_round (F',i+1) ⟨hle.trans hle2,hlt⟩ (show 5 - (i+1)<5 - i by omega) ?_ (MemFits.pre 2 rfl)
  repeat (first|exact FitsSl.nil|refine FitsSl.any ?_|refine FitsSl.cons (Fit1.int (by  (simp only [hn];omega))) ?_|refine FitsSl.cons (Fit1.int (by first | rfl | omega)) ?_|refine FitsSl.cons (Fit1.same (by intro h;cases h) (by with_reducible rfl)) ?_)
 ·obtain rfl:i=5:=by omega
  (repeat' (first|(with_reducible first|(refine hK _ _ ?_;clear hK K)|(refine hB ?_;clear hA hB A B)|(refine hK _ ?_;clear hK K))|((with_reducible refine z25 ?_);intro K hK;(conv=>whnf))|(with_reducible refine z0 ?_)|(((with_reducible refine NIf.decN ?s ?_);case s=>omega)<;>(conv=>whnf))|(with_reducible first|refine z3 ?_|refine z4 ?_|refine z7 ?_|refine z8 ?_)|((with_reducible refine z29 ?_);intro A B hA hB;(conv=>whnf))|(with_reducible first|refine z1 ?_|refine z2 ?_|refine z10 ?_|refine z11 ?_|refine z19 ?_)|((with_reducible refine gR ?_);(refine z31 rfl ?_;intro K hK;(conv=>whnf)))))
  all_goals exact ⟨rfl,G,hle,MemFits.pre 1 rfl⟩
namespace Tr
theorem cells_pre {F:Heap} {a:Addr}:∀ (l l2:List Value) (o:Nat),CellsF F a o (l++l2)→CellsF F a o l
 | [],_,_,_=>trivial
 | _::l,l2,o,h=>⟨h.1,cells_pre l l2 (o+1) h.2⟩
theorem Mk.of {G:Heap} {a:Addr} {y:Po.T} {sw:Int} {pu u v0 v1 v2 v3 v4:Value} (hp:Po.At G y pu u) (h0:Srt.Row G v0 (Po.values 0 y)) (h1:Srt.Row G v1 (Po.values 1 y)) (h2:Srt.Row G v2 (Po.values 2 y)) (h3:Srt.Row G v3 (Po.values 3 y)) (h4:Srt.Row G v4 (Po.values 4 y))
  (hc:CellsF G a 0 (denL (Po.cs y pu u++[.int .i64 sw]++[.hs v0 (Po.values 0 y).length,.hs v1 (Po.values 1 y).length,.hs v2 (Po.values 2 y).length,.hs v3 (Po.values 3 y).length,.hs v4 (Po.values 4 y).length]))):Mk G a y sw pu u:=by
 refine ⟨hp,?_,fun f hf=>?_⟩
 ·rw [denL_append] at hc
  exact cells_pre _ _ _ hc
 ·obtain ⟨_,_,_,_,_,_,_,_,_,d0,d1,d2,d3,d4,_⟩:=hc
  have key:∀ (v:Value) (l:List Int) (k:Nat),Srt.Row G v l→G.c (a.add k) (AV.hs v l.length).den→∃ A cap,Srt.Row G (.slice A l.length cap) l∧G.c (a.add k) (.slice A l.length cap):=fun v l k hv hk=>by
   obtain ⟨A,cap,rfl,_,_⟩:=hv.ok
   exact ⟨A,cap,hv,hk⟩
  rcases ok5 hf with rfl | rfl | rfl | rfl | rfl
  ·exact key v0 _ 9 h0 d0
  ·exact key v1 _ 10 h1 d1
  ·exact key v2 _ 11 h2 d2
  ·exact key v3 _ 12 h3 d3
  ·exact key v4 _ 13 h4 d4
end Tr
theorem order31_c:NCall Tryz.prog 28 [] [] fun r m=>∃ v,r = .sl 0 v 5∧m=[⟨addrOf v,[.int .i64 4,.int .i64 0,.int .i64 1,.int .i64 2,.int .i64 3],.row v 3 1 5⟩]:=by
 refine ncall_of Tryz.func28 rfl (by decide) ?_
 (repeat' (first|(with_reducible first|(refine hK _ _ ?_;clear hK K)|(refine hK _ ?_;clear hK K))|((with_reducible refine z25 ?_);intro K hK;(conv=>whnf))|(with_reducible refine z0 ?_)|(((with_reducible refine NH.mk ?s ?_);case s=>(and_intros<;>first|((with_reducible refine gLen ?_);rfl)|omega))<;>(conv=>whnf))|(with_reducible first|refine z3 ?_|refine z4 ?_|refine z8 ?_|refine z1 ?_|refine z2 ?_)|((with_reducible refine gR ?_);(refine z31 rfl ?_;intro K hK;(conv=>whnf)))|((with_reducible refine gF ?_);(refine z33 rfl ?_;intro K hK;(conv=>whnf)))|((intro _;skip)<;>(conv=>whnf))))
 all_goals exact ⟨_,rfl,rfl⟩
theorem cases31_k (G:Heap) (y:Po.T) (sw:Int) (pu u:Value) (hs:Po.tot y≤4611686018427387904) (hf:Po.fits y=true) (hl:∀ s,(Po.runs sw y s).length≤1000) (hc:Tr.cnt y Tr.order≤1000000) (v0 v1 v2 v3 v4:Value) (hp:Po.At G y pu u) (h0:Srt.Row G v0 (Po.values 0 y)) (h1:Srt.Row G v1 (Po.values 1 y)) (h2:Srt.Row G v2 (Po.values 2 y)) (h3:Srt.Row G v3 (Po.values 3 y)) (h4:Srt.Row G v4 (Po.values 4 y)) (b:Nat) (w:Value) :
  NCall Tryz.prog 27 [.ptr 1 ⟨b,0,none⟩ 0,.sl 2 w 5,.agg [.int .i64 (-1),.int .i64 (-1),.int .i64 (-1),.int .i64 (-1),.int .i64 (-1),.raw (.slice none 0 0)]]
   [hpB G,⟨⟨b,0,none⟩,Po.cs y pu u++[.int .i64 sw]++[.hs v0 (Po.values 0 y).length,.hs v1 (Po.values 1 y).length,.hs v2 (Po.values 2 y).length,.hs v3 (Po.values 3 y).length,.hs v4 (Po.values 4 y).length],.var 70⟩,⟨addrOf w,[.int .i64 4,.int .i64 0,.int .i64 1,.int .i64 2,.int .i64 3],.row w 3 1 5⟩]
   fun r m=>∃ F' v,G.le F'∧Tr.Row F' v (Tr.cases sw y Tr.order Tr.start)∧r = .hs v (Tr.cases sw y Tr.order Tr.start).length∧m=[hpB F',hpB noHeap,hpB noHeap]:=by
 have hord:∀ f∈Tr.order,Tr.ok f:=fun f h=>Tr.mem_order.1 h
 rw [NCall_iff]
 refine ⟨Go.Sx.enters_of Tryz.func27 rfl (by decide),fun W hW=>(NCall_iff.1 ?_).2 W hW⟩
 have hok:=(hW.row (List.mem_cons_of_mem _ (List.mem_cons_of_mem _ (List.mem_cons_self ..)))).1
 have hrow:=rowF_new (F:=addF G ⟨b,0,none⟩ (denL (Po.cs y pu u++[.int .i64 sw]++[.hs v0 (Po.values 0 y).length,.hs v1 (Po.values 1 y).length,.hs v2 (Po.values 2 y).length,.hs v3 (Po.values 3 y).length,.hs v4 (Po.values 4 y).length]))) (sz:=1) (enc:=fun x:Int=>[.int .i64 x]) (l:=Tr.order) (vs:=denL [.int .i64 4,.int .i64 0,.int .i64 1,.int .i64 2,.int .i64 3]) hok rfl (fun x _=>rfl)
 have hm:Tr.Mk (addF G ⟨b,0,none⟩ (denL (Po.cs y pu u++[.int .i64 sw]++[.hs v0 (Po.values 0 y).length,.hs v1 (Po.values 1 y).length,.hs v2 (Po.values 2 y).length,.hs v3 (Po.values 3 y).length,.hs v4 (Po.values 4 y).length]))) ⟨b,0,none⟩ y sw pu u :=
  Tr.Mk.of (hp.mono addF.old) (RowF.mono addF.old (fun _ _ h=>h) h0) (RowF.mono addF.old (fun _ _ h=>h) h1) (RowF.mono addF.old (fun _ _ h=>h) h2) (RowF.mono addF.old (fun _ _ h=>h) h3) (RowF.mono addF.old (fun _ _ h=>h) h4) addF.new
 have c:=cases31_c y sw ⟨b,0,none⟩ pu u hs hf hl Tr.order _ Tr.start w hord hc hrow (hm.mono addF.old)
 refine (NCall.pre (args:=[.ptr 1 ⟨b,0,none⟩ 0,.sl 2 w 5,.agg [.int .i64 (-1),.int .i64 (-1),.int .i64 (-1),.int .i64 (-1),.int .i64 (-1),.raw (.slice none 0 0)]]) (mL:=[hpB _]) c rfl ?_).fits fun r m' hr=>?_
 ·exact (MemFits.freezeVar (m:=[_])).trans (MemFits.freeze (m:=[]))
 ·obtain ⟨F',v,h1,h2,rfl,rfl⟩:=hr
  exact ⟨_,_,rfl,((MemFits.noHeap _).trans (MemFits.noHeap _)).trans (MemFits.pick [2,0,1] (by decide) rfl),F',v,(addF.old.trans addF.old).trans h1,h2,rfl,rfl⟩
def Tr.ans (sw:Int) (x:Po.T):List Tr.C × Int:=if Po.right x=true then (Tr.all sw x,0) else ([],17)
theorem Cases31_c (F:Heap) (x:Po.T) (pu u:Value) (sw:Int) (hs:Po.tot x≤1000000000) (hx:Po.At F x pu u) (hce:Po.right x=true→Po.cells (Po.spec sw x)≤4096) (hc:Po.right x=true→Tr.cnt (Po.spec sw x) Tr.order≤1000000) :
  NCall Tryz.prog 8 [.agg (Po.cs x pu u),.int .i64 sw] [hpB F] fun r m=>∃ F' v,F.le F'∧Tr.Row F' v (Tr.ans sw x).1∧r = .tup [.hs v (Tr.ans sw x).1.length,.int .i64 (Tr.ans sw x).2]∧m=[hpB F']:=by
 have hok:=hx.l.ok
 have hpok:=hx.p.ok
 have cR:=right27_c F x pu u (by omega) hx
 refine NCall.fits (K:=fun r m=>∃ F' v,F.le F'∧Tr.Row F' v (Tr.ans sw x).1∧r.den=(AV.tup [.hs v (Tr.ans sw x).1.length,.int .i64 (Tr.ans sw x).2]).den∧MemFits m [hpB F']) ?_ fun r m' ⟨F',v,h1,h2,h3,h4⟩=>⟨_,_,h3.symm,h4,F',v,h1,h2,rfl,rfl⟩
 unfold Tr.ans
 by_cases hr:Po.right x=true
 rotate_left
 ·have hr:Po.right x=false:=by simpa using hr
  rw [hr] at cR ⊢
  clear hx hce hc
  obtain ⟨k,⟨pk,pf,pv,pl⟩,a,v,l⟩:=x
  simp only [po_cs,Po.T.l,Po.T.p,Pd.T.k,Pd.T.f,Pd.T.v,Pd.T.l] at *
  refine ncall_of Tryz.func8 rfl (by decide) ?_
  (repeat' (first|(with_reducible first|(refine hK _ _ ?_;clear hK K)|(refine hA ?_;clear hA hB A B)|(refine hK _ ?_;clear hK K))|((with_reducible refine z25 ?_);intro K hK;(conv=>whnf))|(with_reducible refine z0 ?_)|((first|with_reducible refine NIf.not_ ?_|((with_reducible refine NIf.no ?s ?_);case s=>rfl)|((with_reducible refine NH.mk ?s ?_);case s=>(and_intros<;>with_reducible rfl))|((with_reducible refine NCall.isF 23 ?_);refine NCall.subE [0] (cR) rfl (by decide) rfl rfl ?_))<;>(conv=>whnf))|(with_reducible first|refine z3 ?_|refine z4 ?_|refine z8 ?_)|((with_reducible refine z29 ?_);intro A B hA hB;(conv=>whnf))|(with_reducible first|refine z1 ?_|refine z2 ?_|refine z12 ?_)|((with_reducible refine gR ?_);(refine z31 rfl ?_;intro K hK;(conv=>whnf)))|((with_reducible refine gF ?_);(refine z33 rfl ?_;intro K hK;(conv=>whnf)))|((intro _;skip)<;>(conv=>whnf))))
  all_goals exact ⟨F,.slice none 0 0,F.le_refl,RowF.nil,rfl,MemFits.pre 1 rfl⟩
 rw [hr] at cR
 rw [if_pos hr]
 have hf:=Po.right_fits' hr
 have hyf:=Po.spec_fits sw x hf
 have hyt:=Po.spec_tot sw x hf
 have hyr:=Po.spec_right sw x hr
 have hl:∀ s,(Po.runs sw (Po.spec sw x) s).length≤1000:=fun s=>Nat.le_trans (Po.runs_64 sw _ hyr s) (by decide)
 have cA:=at27_c _ F x pu u sw (Nat.le_refl _) (by omega) hf hx
 have hce:=hce hr
 have hc:=hc hr
 unfold Tr.all
 clear hx hf hr hyr
 generalize Po.spec sw x=y at *
 have cC:=fun G pu u (h:Po.At G y pu u)=>cells27_c G y pu u (by omega) h
 have cV:=fun G pu u (h:Po.At G y pu u) f (hf : -9223372036854775808≤f∧f≤9223372036854775807)=>Values27_c G y pu u f hf (by omega) h
 have hmo:=fun G G' pu u (h:Heap.le G G') (h2:Po.At G y pu u)=>Po.At.mono h h2
 have hlen:=fun f=>Po.values_len f y
 have kC:=fun G pu u v0 v1 v2 v3 v4 hp h0 h1 h2 h3 h4 b w=>cases31_k G y sw pu u (by omega) hyf hl hc v0 v1 v2 v3 v4 hp h0 h1 h2 h3 h4 b w
 generalize Tr.cases sw y Tr.order Tr.start=C at *
 clear hl hc hyf
 generalize hv0:Po.values 0 y=V0 at *
 generalize hv1:Po.values 1 y=V1 at *
 generalize hv2:Po.values 2 y=V2 at *
 generalize hv3:Po.values 3 y=V3 at *
 generalize hv4:Po.values 4 y=V4 at *
 have cV0:=fun G pu u h=>(hv0 ▸ cV G pu u h 0 (by omega):NCall Tryz.prog 26 [.agg (Po.cs y pu u),.int .i64 0] [hpB G] fun r m=>Srt.Lays G V0 r m)
 have cV1:=fun G pu u h=>(hv1 ▸ cV G pu u h 1 (by omega):NCall Tryz.prog 26 [.agg (Po.cs y pu u),.int .i64 1] [hpB G] fun r m=>Srt.Lays G V1 r m)
 have cV2:=fun G pu u h=>(hv2 ▸ cV G pu u h 2 (by omega):NCall Tryz.prog 26 [.agg (Po.cs y pu u),.int .i64 2] [hpB G] fun r m=>Srt.Lays G V2 r m)
 have cV3:=fun G pu u h=>(hv3 ▸ cV G pu u h 3 (by omega):NCall Tryz.prog 26 [.agg (Po.cs y pu u),.int .i64 3] [hpB G] fun r m=>Srt.Lays G V3 r m)
 have cV4:=fun G pu u h=>(hv4 ▸ cV G pu u h 4 (by omega):NCall Tryz.prog 26 [.agg (Po.cs y pu u),.int .i64 4] [hpB G] fun r m=>Srt.Lays G V4 r m)
 generalize Po.cells y=nc at *
 have hro:=fun (G G':Heap) (v:Value) (l:List Int) (h:G.le G') (h2:Srt.Row G v l)=>(RowF.mono h (fun _ _ h=>h) h2:Srt.Row G' v l)
 have hAo:=fun G pu u (h:Po.At G y pu u)=>h.l.ok
 have hAp:=fun G pu u (h:Po.At G y pu u)=>h.p.ok
 clear cV hlen hv0 hv1 hv2 hv3 hv4
 obtain ⟨k,⟨pk,pf,pv,pl⟩,a,v,l⟩:=x
 obtain ⟨yk,⟨ypk,ypf,ypv,ypl⟩,yf,yv,yl⟩:=y
 simp only [Po.cs,Po.Lays,Srt.Lays,Po.T.k,Po.T.l,Po.T.p,Po.T.f,Po.T.v,Pd.T.k,Pd.T.f,Pd.T.v,Pd.T.l,List.cons_append,List.nil_append] at *
 refine ncall_of Tryz.func8 rfl (by decide) ?_
 (repeat' (first|(with_reducible first|(refine hK _ _ ?_;clear hK K)|(refine hA ?_;clear hA hB A B)|(refine hB ?_;clear hA hB A B)|(refine hK _ ?_;clear hK K))|((with_reducible refine z25 ?_);intro K hK;(conv=>whnf))|(with_reducible refine z0 ?_)|((first|((with_reducible refine NV.i64 ?s ?_);case s=>omega)|with_reducible refine NIf.not_ ?_|((with_reducible refine NIf.decY ?s ?_);case s=>omega)|((with_reducible refine NIf.decN ?s ?_);case s=>omega)|((with_reducible refine NIf.yes ?s ?_);case s=>rfl)|(with_reducible first|refine NN.lit ?_|refine NN.a3 ?_|refine NN.a5 ?_|refine NN.keep ?_)|((with_reducible refine NH.mk ?s ?_);case s=>(and_intros<;>first|with_reducible rfl|((with_reducible refine gOnes ?_);rfl)|((with_reducible refine gLen ?_);rfl)|((with_reducible refine gKept ?_);exact rfl)|omega))|((with_reducible refine NCall.isF 23 ?_);refine NCall.subE [0] (cR) rfl (by decide) rfl rfl ?_)|((with_reducible refine NCall.isF 24 ?_);refine NCall.subw [0] _ _ (cA) rfl (by decide) rfl ?_;rintro _ _ ⟨F1,pu1,u1,hle1,hA1,rfl,rfl⟩;refine ⟨Nat.le_of_ble_eq_true rfl,_,rfl,?_⟩)|((with_reducible refine NCall.isF 25 ?_);refine NCall.subE [0] (cC F1 pu1 u1 hA1) rfl (by decide) rfl rfl ?_)|((with_reducible refine NCall.isF 26 ?_);refine NCall.subw [0] _ _ (cV0 F1 pu1 u1 hA1) rfl (by decide) rfl ?_;rintro _ _ ⟨G0,w0,hl0,hw0,rfl,rfl⟩;refine ⟨Nat.le_of_ble_eq_true rfl,_,rfl,?_⟩)|((with_reducible refine NCall.isF 26 ?_);refine NCall.subw [0] _ _ (cV1 G0 pu1 u1 (hmo _ _ _ _ hl0 hA1)) rfl (by decide) rfl ?_;rintro _ _ ⟨G1,w1,hl1,hw1,rfl,rfl⟩;refine ⟨Nat.le_of_ble_eq_true rfl,_,rfl,?_⟩)|((with_reducible refine NCall.isF 26 ?_);refine NCall.subw [0] _ _ (cV2 G1 pu1 u1 (hmo _ _ _ _ (hl0.trans hl1) hA1)) rfl (by decide) rfl ?_;rintro _ _ ⟨G2,w2,hl2,hw2,rfl,rfl⟩;refine ⟨Nat.le_of_ble_eq_true rfl,_,rfl,?_⟩)|((with_reducible refine NCall.isF 26 ?_);refine NCall.subw [0] _ _ (cV3 G2 pu1 u1 (hmo _ _ _ _ ((hl0.trans hl1).trans hl2) hA1)) rfl (by decide) rfl ?_;rintro _ _ ⟨G3,w3,hl3,hw3,rfl,rfl⟩;refine ⟨Nat.le_of_ble_eq_true rfl,_,rfl,?_⟩)|((with_reducible refine NCall.isF 26 ?_);refine NCall.subw [0] _ _ (cV4 G3 pu1 u1 (hmo _ _ _ _ (((hl0.trans hl1).trans hl2).trans hl3) hA1)) rfl (by decide) rfl ?_;rintro _ _ ⟨G4,w4,hl4,hw4,rfl,rfl⟩;refine ⟨Nat.le_of_ble_eq_true rfl,_,rfl,?_⟩)|((with_reducible refine NCall.isF 28 ?_);refine NCall.subw [] _ _ (order31_c) rfl (by decide) rfl ?_;rintro _ _ ⟨vo,rfl,rfl⟩;refine ⟨Nat.le_of_ble_eq_true rfl,.sl 3 vo 5,rfl,?_⟩)|((with_reducible refine NCall.isF 27 ?_);refine NCall.subw [0,2,3] _ _ (kC G4 pu1 u1 w0 w1 w2 w3 w4 (hmo _ _ _ _ ((((hl0.trans hl1).trans hl2).trans hl3).trans hl4) hA1) (hro _ _ _ _ (((hl1.trans hl2).trans hl3).trans hl4) hw0) (hro _ _ _ _ ((hl2.trans hl3).trans hl4) hw1) (hro _ _ _ _ (hl3.trans hl4) hw2) (hro _ _ _ _ hl4 hw3) hw4 _ _) rfl (by decide) rfl ?_;rintro _ _ ⟨G5,v5,hl5,hw5,rfl,rfl⟩;refine ⟨Nat.le_of_ble_eq_true rfl,_,rfl,?_⟩))<;>(conv=>whnf))|(with_reducible refine st_ordSout ?_)|((with_reducible refine gNOK ?_);(first|(refine st_ordK1 rfl (by kernel_rfl) rfl ?_;intro K hK;(conv=>whnf))|refine st_ordK0 rfl (by kernel_rfl) ?_|refine st_ordKA rfl rfl (by kernel_rfl) (by intro h;cases h) ?_))|((with_reducible refine gNEK ?_);(first|(refine st_eachK ?_ ?_;(intro K hK;(conv=>whnf)))|exact st_eachK0))|((with_reducible refine gX ?_);(first|(with_reducible refine st_rounds 6 ?_)|refine st_orderS [0,2] rfl rfl (by kernel_rfl) _ rfl ?_|(with_reducible first|refine z3 ?_|refine z4 ?_|refine z5 ?_|refine z6 ?_|refine z7 ?_|refine z8 ?_)|((with_reducible refine z29 ?_);intro A B hA hB;(conv=>whnf))))|(with_reducible first|refine z1 ?_|refine z2 ?_|refine z9 ?_|refine z10 ?_|refine z11 ?_|refine z21 ?_|refine z22 ?_)|((with_reducible refine gR ?_);(refine z31 rfl ?_;intro K hK;(conv=>whnf)))|((with_reducible refine gF ?_);(refine z33 rfl ?_;intro K hK;(conv=>whnf)))|((intro _;skip)<;>(conv=>whnf))))
 all_goals exact ⟨G5,v5,((((hle1.trans hl0).trans hl1).trans hl2).trans hl3).trans (hl4.trans hl5),hw5,rfl,MemFits.pre 1 rfl⟩
namespace Pd
theorem fold_neg {k f v out d:Int} {L:List T} {ps:List (T × Value)} (h:∀ x∈L,¬ x.k=d) (he:ps.map (·.1)=L.filter (fun x=>!decide (x.k=out))):fold k f v out d L=match ps.map (·.1) with
  | []=>.mk out 0 0 []
  | [x]=>x
  | x::y::r=>.mk k f v (x::y::r):=by
 unfold fold
 have:¬ (L.any fun x=>decide (x.k=d))=true:=fun hh=>by
  obtain ⟨y,hy,e⟩:=any_k hh
  exact h y hy e
 rw [if_neg this,he]
 rfl
theorem fold_one {k f v out d:Int} {L:List T} {y:T} (hy:y∈L) (hk:y.k=d):fold k f v out d L = .mk d 0 0 []:=by
 unfold fold
 rw [if_pos (List.any_eq_true.2 ⟨y,hy,decide_eq_true hk⟩)]
end Pd
theorem refcut26_5 (F:Heap) (l:List Pd.T) (u:Value) (sw:Int) (hn:l.length≤8) (hu:Pd.Row F u l) (hfl:∀ x∈l,Pd.fits x=true)
  (ih:∀ G,∀ x∈l,∀ w,Pd.Row G w x.l→NCall Tryz.prog 61 [.agg (Pd.cs x w),.int .i64 sw] [hpB G] fun r m=>Pd.Lays G (Pd.cut sw x) r m) :
  NCall Tryz.prog 61 [.agg [.int .i64 5,.int .i64 0,.int .i64 0,.hs u l.length],.int .i64 sw] [hpB F] fun r m=>Pd.Out F 24 (Pd.fold 5 0 0 1 2 (l.map (Pd.cut sw))) r m:=by
 have hok:=hu.ok
 have hff:∀ x∈l,Pd.fits (Pd.cut sw x)=true:=fun x hx=>Pd.cut_fits sw x (hfl x hx)
 refine ncall_of Tryz.func61 rfl (by decide) ?_
 (repeat' (first|(with_reducible first|(refine hK _ _ ?_;clear hK K)|(refine hB ?_;clear hA hB A B)|(refine hK _ ?_;clear hK K))|((with_reducible first|refine z25 ?_|refine z26 ?_);intro K hK;(conv=>whnf))|(with_reducible refine z0 ?_)|((first|((with_reducible refine NIf.decN ?s ?_);case s=>omega)|((with_reducible refine NIf.no ?s ?_);case s=>rfl)|(with_reducible refine NN.a5 ?_)|((with_reducible refine NH.mk ?s ?_);case s=>(and_intros<;>with_reducible rfl)))<;>(conv=>whnf))|(with_reducible first|refine z3 ?_|refine z4 ?_|refine z5 ?_|refine z6 ?_)|((with_reducible refine z29 ?_);intro A B hA hB;(conv=>whnf))|(with_reducible first|refine z1 ?_|refine z2 ?_)|((with_reducible refine gF ?_);(refine z33 rfl ?_;intro K hK;(conv=>whnf)))|((intro _;skip)<;>(conv=>whnf))))
 refine st_auto (α:=Heap × Value × List (Pd.T × Value) × Nat) (fun (G,w,ps,i)=>F.le G∧i≤l.length∧ps.length≤i∧(∀ x∈(l.take i).map (Pd.cut sw),¬ x.k=2)∧ps.map (·.1)=((l.take i).map (Pd.cut sw)).filter (fun x=>!decide (x.k=1))∧∀ p∈ps,Pd.Row G p.2 p.1.l) (fun (G,w,ps,i)=>[.keep,.keep,.keep,.keep,.keep,.keep,.keep,.keep,.set (.sl 3 w ps.length),.set (.int .i64 i),.drop,.keep,.keep,.keep,.keep,.keep,.keep,.keep,.keep,.keep,.keep,.keep,.keep,.keep,.keep,.keep,.keep,.keep,.keep,.keep,.keep,.keep,.keep,.keep,.keep,.keep,.keep,.keep,.keep,.keep,.keep,.keep,.keep,.keep,.keep,.keep,.keep,.keep,.keep,.keep,.keep,.keep,.keep,.keep,.keep,.keep,.drop,.drop,.drop,.drop,.drop,.drop,.drop,.drop,.drop,.drop,.drop,.drop,.drop,.drop,.drop,.drop,.drop,.drop,.drop,.drop,.drop,.drop,.drop,.drop,.drop,.drop,.drop,.keep,.keep,.keep,.keep,.keep,.keep,.keep,.keep,.keep,.keep,.keep,.keep,.keep,.keep,.keep])
  (fun (G,w,ps,i)=>[.set (hpB G),.keep,.keep,.set ⟨addrOf w,Pd.psC ps,.row w 24 4 ps.length⟩]) (fun (G,w,ps,i)=>l.length - i) (F,.slice none 0 0,[],0) ⟨F.le_refl,Nat.zero_le _,Nat.le_refl _,fun x hx=>by simp at hx,rfl,fun p hp=>by simp at hp⟩ ?_ ((MemFits.nilRow _ 24 4).trans (MemFits.congr rfl)) ?_
 ·repeat (first|exact FitsSl.nil|refine FitsSl.any ?_|refine FitsSl.cons (Fit1.int (by first | rfl | omega)) ?_|refine FitsSl.cons (Fit1.bool rfl) ?_|refine FitsSl.cons (Fit1.same (by intro h;cases h) (by with_reducible rfl)) ?_|refine FitsSl.cons Fit1.nil_sl ?_)
 (intro ⟨G,w,ps,i⟩ ⟨hle,hil,hpi,hno,hmap,hall⟩;intro K hK;(conv=>whnf);refine hK _ _ ?_;clear hK K)
 dsimp only
 generalize hk:ps.length=t at *
 by_cases hlt:i<l.length
 ·have hx:l[i]?=some l[i]:=List.getElem?_eq_getElem hlt
  obtain ⟨A,cap,hA,c0,c1,c2,c3⟩:=(Pd.Row.mono hle hu).get hx
  have hmem:=List.mem_of_getElem? hx
  have c:=ih G _ hmem _ hA
  have hfy:=hff _ hmem
  have hym:Pd.cut sw l[i]∈l.map (Pd.cut sw):=List.mem_map_of_mem hmem
  have hnx:(l.take (i+1)).map (Pd.cut sw)=(l.take i).map (Pd.cut sw)++[Pd.cut sw l[i]]:=by rw [List.take_add_one,hx,List.map_append];rfl
  clear ih hff
  generalize Pd.cut sw l[i]=y at *
  generalize l[i]=x at *
  have hpl:=Pd.psC_len ps
  have hpn:=Pd.psC_next ps
  generalize hpc:Pd.psC ps=pc at *
  obtain ⟨xk,xf,xv,xl⟩:=x
  have h12:=fun h=>Pd.fits_12 hfy h
  by_cases hone:y.k=2
  ·have hX:=Pd.fold_one (k:=5) (f:=0) (v:=0) (out:=1) hym hone
   have hY:=h12 (by omega)
   rw [hone] at hY
   rw [hX]
   subst hY
   simp only [Pd.Lays,Pd.cs,Pd.T.k,Pd.T.f,Pd.T.v,Pd.T.l] at c c0 c1 c2 c3 hA
   (repeat' (first|(with_reducible first|(refine hK _ _ ?_;clear hK K)|(refine hA ?_;clear hA hB A B)|(refine hK _ ?_;clear hK K))|((with_reducible refine z25 ?_);intro K hK;(conv=>whnf))|(with_reducible refine z0 ?_)|((first|((with_reducible refine NIf.decY ?s ?_);case s=>first|with_reducible rfl|omega)|(with_reducible first|refine NN.cast ?_|refine NN.a5 ?_|refine NN.keep ?_)|((with_reducible refine NH.mk ?s ?_);case s=>(and_intros<;>first|with_reducible rfl|((with_reducible refine gOnes ?_);rfl)|((with_reducible refine gLen ?_);rfl)|omega))|((with_reducible refine NCall.isF 61 ?_);refine NCall.subw [0] _ _ (c) rfl (by decide) rfl ?_;rintro _ _ ⟨G',w',hle2,hrow,rfl,rfl⟩;refine ⟨Nat.le_of_ble_eq_true rfl,_,rfl,?_⟩)|(with_reducible refine NLd.of (by with_reducible assumption) ?_))<;>(conv=>whnf))|(with_reducible first|refine z3 ?_|refine z4 ?_|refine z5 ?_|refine z6 ?_|refine z8 ?_)|((with_reducible refine z29 ?_);intro A B hA hB;(conv=>whnf))|(with_reducible first|refine z1 ?_|refine z2 ?_|refine z12 ?_|refine z13 ?_|refine z20 ?_)|((with_reducible refine gR ?_);(refine z31 rfl ?_;intro K hK;(conv=>whnf)))|((intro _;skip)<;>(conv=>whnf))))
   all_goals exact .inr ⟨G',w',hle.trans hle2,hrow,rfl,MemFits.pre 1 rfl⟩
  have hno2:∀ x∈(l.take (i+1)).map (Pd.cut sw),¬ x.k=2:=fun x hx=>by
   rw [hnx] at hx
   rcases List.mem_append.1 hx with hx | hx
   ·exact hno x hx
   ·rw [List.mem_singleton.1 hx];exact hone
  by_cases hnone:y.k=1
  ·have hm2:ps.map (·.1)=((l.take (i+1)).map (Pd.cut sw)).filter (fun x=>!decide (x.k=1)):=by
    rw [hnx,List.filter_append,← hmap,List.filter_cons,if_neg (by simp [hnone])];simp
   clear hnx hym h12 hfy
   obtain ⟨yk,yf,yv,yl⟩:=y
   have hnone:yk=1:=hnone
   subst hnone
   clear hone
   simp only [Pd.Lays,Pd.cs,Pd.T.k,Pd.T.f,Pd.T.v,Pd.T.l] at c c0 c1 c2 c3 hA
   (repeat' (first|(with_reducible first|(refine hK _ _ ?_;clear hK K)|(refine hA ?_;clear hA hB A B)|(refine hB ?_;clear hA hB A B))|((with_reducible refine z25 ?_);intro K hK;(conv=>whnf))|(with_reducible refine z0 ?_)|((first|((with_reducible refine NV.i64 ?s ?_);case s=>omega)|with_reducible refine NIf.not_ ?_|((with_reducible refine NIf.decY ?s ?_);case s=>first|with_reducible rfl|omega)|((with_reducible refine NIf.decN ?s ?_);case s=>omega)|(with_reducible first|refine NN.cast ?_|refine NN.a5 ?_|refine NN.keep ?_)|((with_reducible refine NH.mk ?s ?_);case s=>(and_intros<;>first|with_reducible rfl|((with_reducible refine gOnes ?_);rfl)|((with_reducible refine gLen ?_);rfl)|omega))|((with_reducible refine NCall.isF 61 ?_);refine NCall.subw [0] _ _ (c) rfl (by decide) rfl ?_;rintro _ _ ⟨G',w',hle2,hrow,rfl,rfl⟩;refine ⟨Nat.le_of_ble_eq_true rfl,_,rfl,?_⟩)|(with_reducible refine NLd.of (by with_reducible assumption) ?_))<;>(conv=>whnf))|(with_reducible first|refine z3 ?_|refine z4 ?_|refine z5 ?_|refine z6 ?_)|((with_reducible refine z29 ?_);intro A B hA hB;(conv=>whnf))|(with_reducible first|refine z1 ?_|refine z2 ?_|refine z9 ?_)|((intro _;skip)<;>(conv=>whnf))))
   all_goals
    refine st_round (G',w,ps,i+1) ⟨hle.trans hle2,hlt,(show ps.length≤i+1 by omega),hno2,hm2,fun p hp=>Pd.Row.mono hle2 (hall p hp)⟩ (show l.length - (i+1)<l.length - i by omega) ?_ (MemFits.pre 4 (by simp only [hk,hpc];rfl))
    simp only [hk]
    repeat (first|exact FitsSl.nil|refine FitsSl.any ?_|refine FitsSl.cons (Fit1.int (by first | rfl | omega)) ?_|refine FitsSl.cons (Fit1.bool rfl) ?_|refine FitsSl.cons (Fit1.same (by intro h;cases h) (by with_reducible rfl)) ?_)
  ·have hm2:∀ w':Value,(ps++[(y,w')]).map (·.1)=((l.take (i+1)).map (Pd.cut sw)).filter (fun x=>!decide (x.k=1)):=fun w'=>by
    rw [hnx,List.filter_append,← hmap,List.filter_cons,if_pos (by simp [hnone])];simp
   clear hnx hym h12 hfy
   obtain ⟨yk,yf,yv,yl⟩:=y
   have hone:¬ yk=2:=hone
   have hnone:¬ yk=1:=hnone
   simp only [Pd.Lays,Pd.cs,Pd.T.k,Pd.T.f,Pd.T.v,Pd.T.l] at c c0 c1 c2 c3 hA
   (repeat' (first|(with_reducible first|(refine hK _ _ ?_;clear hK K)|(refine hA ?_;clear hA hB A B)|(refine hB ?_;clear hA hB A B))|((with_reducible refine z25 ?_);intro K hK;(conv=>whnf))|(with_reducible refine z0 ?_)|((first|((with_reducible refine NV.i64 ?s ?_);case s=>omega)|with_reducible refine NIf.not_ ?_|((with_reducible refine NIf.decY ?s ?_);case s=>omega)|((with_reducible refine NIf.decN ?s ?_);case s=>assumption)|(with_reducible first|refine NN.cast ?_|refine NN.a5 ?_|refine NN.keep ?_)|((with_reducible refine NH.mk ?s ?_);case s=>(and_intros<;>first|with_reducible rfl|((with_reducible refine gOnes ?_);rfl)|((with_reducible refine gLen ?_);rfl)|omega))|((with_reducible refine NCall.isF 61 ?_);refine NCall.subw [0] _ _ (c) rfl (by decide) rfl ?_;rintro _ _ ⟨G',w',hle2,hrow,rfl,rfl⟩;refine ⟨Nat.le_of_ble_eq_true rfl,_,rfl,?_⟩)|(with_reducible refine NLd.of (by with_reducible assumption) ?_))<;>(conv=>whnf))|(with_reducible first|refine z3 ?_|refine z4 ?_|refine z5 ?_|refine z6 ?_)|((with_reducible refine z29 ?_);intro A B hA hB;(conv=>whnf))|(with_reducible first|refine z1 ?_|refine z2 ?_|refine z9 ?_)|((intro _;skip)<;>(conv=>whnf))))
   all_goals
    rename_i v9
    refine st_round (G',v9,ps++[(⟨yk,yf,yv,yl⟩,w')],i+1) ⟨hle.trans hle2,hlt,by rw [List.length_append,hk];show t+1≤i+1;omega,hno2,hm2 w',fun x hx=>?_⟩ (show l.length - (i+1)<l.length - i by omega) ?_ (MemFits.pre 4 ?_)
    ·rcases List.mem_append.1 hx with hx | hx
     ·exact Pd.Row.mono hle2 (hall x hx)
     ·rw [List.mem_singleton.1 hx];exact hrow
    ·simp only [List.length_append,hk]
     repeat (first|exact FitsSl.nil|refine FitsSl.any ?_|refine FitsSl.cons (Fit1.int (by first | rfl | omega)) ?_|refine FitsSl.cons (Fit1.bool rfl) ?_|refine FitsSl.cons (Fit1.same (by intro h;cases h) (by with_reducible rfl)) ?_|refine FitsSl.cons (Fit1.sl rfl) ?_)
    ·simp only [autoM,List.take,List.length_append,hk,hpn]
     rw [show t+[((⟨yk,yf,yv,yl⟩:Pd.T),w')].length=t+1 from rfl]
     rfl
 ·have hkl:i=l.length:=by omega
  subst hkl
  rw [List.take_length] at hmap hno
  rw [Pd.fold_neg hno hmap]
  clear ih hff hno hmap hfl
  match ps,hk with
  | [],hk =>
   subst hk
   (repeat' (first|(with_reducible first|(refine hK _ _ ?_;clear hK K)|(refine hA ?_;clear hA hB A B)|(refine hB ?_;clear hA hB A B)|(refine hK _ ?_;clear hK K))|((with_reducible refine z25 ?_);intro K hK;(conv=>whnf))|(with_reducible refine z0 ?_)|((first|((with_reducible refine NIf.decN ?s ?_);case s=>omega)|((with_reducible refine NIf.yes ?s ?_);case s=>rfl)|(with_reducible refine NN.a5 ?_)|((with_reducible refine NH.mk ?s ?_);case s=>(and_intros<;>first|with_reducible rfl|((with_reducible refine gOnes ?_);rfl)|((with_reducible refine gLen ?_);rfl)|omega)))<;>(conv=>whnf))|(with_reducible first|refine z3 ?_|refine z4 ?_|refine z7 ?_|refine z8 ?_)|((with_reducible refine z29 ?_);intro A B hA hB;(conv=>whnf))|(with_reducible first|refine z1 ?_|refine z2 ?_|refine z10 ?_|refine z11 ?_|refine z12 ?_|refine z19 ?_)|((with_reducible refine gR ?_);(refine z31 rfl ?_;intro K hK;(conv=>whnf)))))
   all_goals exact .inr ⟨G,.slice none 0 0,hle,⟨SlOk.nil,fun k x hx=>by simp [Pd.T.l] at hx⟩,rfl,MemFits.pre 1 rfl⟩
  | [(⟨xk,xf,xv,xl⟩,u')],hk =>
   subst hk
   have hq:[((⟨xk,xf,xv,xl⟩:Pd.T),u')][0]?=some (⟨xk,xf,xv,xl⟩,u'):=rfl
   (repeat' (first|(with_reducible first|(refine hK _ _ ?_;clear hK K)|(refine hA ?_;clear hA hB A B)|(refine hB ?_;clear hA hB A B)|(refine hK _ ?_;clear hK K))|((with_reducible refine z25 ?_);intro K hK;(conv=>whnf))|(with_reducible refine z0 ?_)|((first|((with_reducible refine NIf.decN ?s ?_);case s=>omega)|((with_reducible refine NIf.yes ?s ?_);case s=>rfl)|((with_reducible refine NIf.no ?s ?_);case s=>rfl)|(with_reducible first|refine NN.lit ?_|refine NN.a5 ?_|refine NN.a6 ?_)|((with_reducible refine NH.mk ?s ?_);case s=>(and_intros<;>first|with_reducible rfl|((with_reducible refine gOnes ?_);rfl)|((with_reducible refine gLen ?_);rfl)|omega|(simp only [List.length_append,List.length_cons,List.length_nil];omega))))<;>(conv=>whnf))|(with_reducible first|refine z3 ?_|refine z4 ?_|refine z6 ?_|refine z7 ?_|refine z8 ?_)|((with_reducible refine z29 ?_);intro A B hA hB;(conv=>whnf))|(with_reducible first|refine z1 ?_|refine z2 ?_|refine z10 ?_|refine z11 ?_|refine z12 ?_|refine z19 ?_)|((with_reducible refine gR ?_);(refine z31 rfl ?_;intro K hK;(conv=>whnf)))))
   all_goals exact .inr ⟨G,u',hle,hall (⟨xk,xf,xv,xl⟩,u') (by simp),rfl,MemFits.pre 1 rfl⟩
  | x::y::r,hk =>
   have hlen:(x::y::r).length=r.length+2:=rfl
   have hX:∀ (g:List Pd.T→Pd.T),(match (x::y::r).map (·.1) with | []=>Pd.T.mk 1 0 0 [] | [x]=>x | x::y::r=>Pd.T.mk 5 0 0 (x::y::r))=Pd.T.mk 5 0 0 ((x::y::r).map (·.1)):=fun _=>rfl
   rw [show (match (x::y::r).map (·.1) with | []=>Pd.T.mk 1 0 0 [] | [x]=>x | x::y::r=>Pd.T.mk 5 0 0 (x::y::r))=Pd.T.mk 5 0 0 ((x::y::r).map (·.1)) from rfl]
   generalize hks:x::y::r=ks at *
   (repeat' (first|(with_reducible first|(refine hK _ _ ?_;clear hK K)|(refine hB ?_;clear hA hB A B)|(refine hK _ ?_;clear hK K))|((with_reducible refine z25 ?_);intro K hK;(conv=>whnf))|(with_reducible refine z0 ?_)|((first|((with_reducible refine NIf.decN ?s ?_);case s=>omega)|(with_reducible refine NN.a5 ?_)|((with_reducible refine NH.mk ?s ?_);case s=>(and_intros<;>first|with_reducible rfl|((with_reducible refine gOnes ?_);rfl)|((with_reducible refine gLen ?_);rfl)|omega)))<;>(conv=>whnf))|(with_reducible first|refine z3 ?_|refine z4 ?_|refine z6 ?_|refine z7 ?_|refine z8 ?_)|((with_reducible refine z29 ?_);intro A B hA hB;(conv=>whnf))|(with_reducible first|refine z1 ?_|refine z2 ?_|refine z10 ?_|refine z11 ?_|refine z19 ?_)|((with_reducible refine gR ?_);(refine z31 rfl ?_;intro K hK;(conv=>whnf)))))
   all_goals exact .inl ⟨G,w,ks,hle,rfl,hall,by simp only [Pd.cs,Pd.T.k,Pd.T.f,Pd.T.v,Pd.T.l,List.length_map,hk];rfl,by rw [hk];exact MemFits.pick [0,3] (by decide) rfl⟩
theorem refcut26_6 (F:Heap) (l:List Pd.T) (u:Value) (sw:Int) (hn:l.length≤8) (hu:Pd.Row F u l) (hfl:∀ x∈l,Pd.fits x=true)
  (ih:∀ G,∀ x∈l,∀ w,Pd.Row G w x.l→NCall Tryz.prog 61 [.agg (Pd.cs x w),.int .i64 sw] [hpB G] fun r m=>Pd.Lays G (Pd.cut sw x) r m) :
  NCall Tryz.prog 61 [.agg [.int .i64 6,.int .i64 0,.int .i64 0,.hs u l.length],.int .i64 sw] [hpB F] fun r m=>Pd.Out F 24 (Pd.fold 6 0 0 2 1 (l.map (Pd.cut sw))) r m:=by
 have hok:=hu.ok
 have hff:∀ x∈l,Pd.fits (Pd.cut sw x)=true:=fun x hx=>Pd.cut_fits sw x (hfl x hx)
 refine ncall_of Tryz.func61 rfl (by decide) ?_
 (repeat' (first|(with_reducible first|(refine hK _ _ ?_;clear hK K)|(refine hA ?_;clear hA hB A B)|(refine hB ?_;clear hA hB A B)|(refine hK _ ?_;clear hK K))|((with_reducible first|refine z25 ?_|refine z26 ?_);intro K hK;(conv=>whnf))|(with_reducible refine z0 ?_)|((first|((with_reducible refine NIf.decY ?s ?_);case s=>with_reducible rfl)|((with_reducible refine NIf.decN ?s ?_);case s=>omega)|((with_reducible refine NIf.no ?s ?_);case s=>rfl)|(with_reducible refine NN.a5 ?_)|((with_reducible refine NH.mk ?s ?_);case s=>(and_intros<;>with_reducible rfl)))<;>(conv=>whnf))|(with_reducible first|refine z3 ?_|refine z4 ?_|refine z5 ?_|refine z6 ?_)|((with_reducible refine z29 ?_);intro A B hA hB;(conv=>whnf))|(with_reducible first|refine z1 ?_|refine z2 ?_)|((with_reducible refine gF ?_);(refine z33 rfl ?_;intro K hK;(conv=>whnf)))|((intro _;skip)<;>(conv=>whnf))))
 refine st_auto (α:=Heap × Value × List (Pd.T × Value) × Nat) (fun (G,w,ps,i)=>F.le G∧i≤l.length∧ps.length≤i∧(∀ x∈(l.take i).map (Pd.cut sw),¬ x.k=1)∧ps.map (·.1)=((l.take i).map (Pd.cut sw)).filter (fun x=>!decide (x.k=2))∧∀ p∈ps,Pd.Row G p.2 p.1.l) (fun (G,w,ps,i)=>[.keep,.keep,.keep,.keep,.keep,.keep,.keep,.keep,.set (.sl 3 w ps.length),.set (.int .i64 i),.drop,.keep,.keep,.keep,.keep,.keep,.keep,.keep,.keep,.keep,.keep,.keep,.keep,.keep,.keep,.keep,.keep,.keep,.keep,.keep,.keep,.keep,.keep,.keep,.keep,.keep,.keep,.keep,.keep,.keep,.keep,.keep,.keep,.keep,.keep,.keep,.keep,.keep,.keep,.keep,.keep,.keep,.keep,.keep,.keep,.keep,.drop,.drop,.drop,.drop,.drop,.drop,.drop,.drop,.drop,.drop,.drop,.drop,.drop,.drop,.drop,.drop,.drop,.drop,.drop,.drop,.drop,.drop,.drop,.drop,.drop,.drop,.drop,.keep,.keep,.keep,.keep,.keep,.keep,.keep,.keep,.keep,.keep,.keep,.keep,.keep,.keep,.keep])
  (fun (G,w,ps,i)=>[.set (hpB G),.keep,.keep,.set ⟨addrOf w,Pd.psC ps,.row w 24 4 ps.length⟩]) (fun (G,w,ps,i)=>l.length - i) (F,.slice none 0 0,[],0) ⟨F.le_refl,Nat.zero_le _,Nat.le_refl _,fun x hx=>by simp at hx,rfl,fun p hp=>by simp at hp⟩ ?_ ((MemFits.nilRow _ 24 4).trans (MemFits.congr rfl)) ?_
 ·repeat (first|exact FitsSl.nil|refine FitsSl.any ?_|refine FitsSl.cons (Fit1.int (by first | rfl | omega)) ?_|refine FitsSl.cons (Fit1.bool rfl) ?_|refine FitsSl.cons (Fit1.same (by intro h;cases h) (by with_reducible rfl)) ?_|refine FitsSl.cons Fit1.nil_sl ?_)
 (intro ⟨G,w,ps,i⟩ ⟨hle,hil,hpi,hno,hmap,hall⟩;intro K hK;(conv=>whnf);refine hK _ _ ?_;clear hK K)
 dsimp only
 generalize hk:ps.length=t at *
 by_cases hlt:i<l.length
 ·have hx:l[i]?=some l[i]:=List.getElem?_eq_getElem hlt
  obtain ⟨A,cap,hA,c0,c1,c2,c3⟩:=(Pd.Row.mono hle hu).get hx
  have hmem:=List.mem_of_getElem? hx
  have c:=ih G _ hmem _ hA
  have hfy:=hff _ hmem
  have hym:Pd.cut sw l[i]∈l.map (Pd.cut sw):=List.mem_map_of_mem hmem
  have hnx:(l.take (i+1)).map (Pd.cut sw)=(l.take i).map (Pd.cut sw)++[Pd.cut sw l[i]]:=by rw [List.take_add_one,hx,List.map_append];rfl
  clear ih hff
  generalize Pd.cut sw l[i]=y at *
  generalize l[i]=x at *
  have hpl:=Pd.psC_len ps
  have hpn:=Pd.psC_next ps
  generalize hpc:Pd.psC ps=pc at *
  obtain ⟨xk,xf,xv,xl⟩:=x
  have h12:=fun h=>Pd.fits_12 hfy h
  by_cases hone:y.k=1
  ·have hX:=Pd.fold_one (k:=6) (f:=0) (v:=0) (out:=2) hym hone
   have hY:=h12 (by omega)
   rw [hone] at hY
   rw [hX]
   subst hY
   simp only [Pd.Lays,Pd.cs,Pd.T.k,Pd.T.f,Pd.T.v,Pd.T.l] at c c0 c1 c2 c3 hA
   (repeat' (first|(with_reducible first|(refine hK _ _ ?_;clear hK K)|(refine hA ?_;clear hA hB A B)|(refine hK _ ?_;clear hK K))|((with_reducible refine z25 ?_);intro K hK;(conv=>whnf))|(with_reducible refine z0 ?_)|((first|((with_reducible refine NIf.decY ?s ?_);case s=>first|with_reducible rfl|omega)|(with_reducible first|refine NN.cast ?_|refine NN.a5 ?_|refine NN.keep ?_)|((with_reducible refine NH.mk ?s ?_);case s=>(and_intros<;>first|with_reducible rfl|((with_reducible refine gOnes ?_);rfl)|((with_reducible refine gLen ?_);rfl)|omega))|((with_reducible refine NCall.isF 61 ?_);refine NCall.subw [0] _ _ (c) rfl (by decide) rfl ?_;rintro _ _ ⟨G',w',hle2,hrow,rfl,rfl⟩;refine ⟨Nat.le_of_ble_eq_true rfl,_,rfl,?_⟩)|(with_reducible refine NLd.of (by with_reducible assumption) ?_))<;>(conv=>whnf))|(with_reducible first|refine z3 ?_|refine z4 ?_|refine z5 ?_|refine z6 ?_|refine z8 ?_)|((with_reducible refine z29 ?_);intro A B hA hB;(conv=>whnf))|(with_reducible first|refine z1 ?_|refine z2 ?_|refine z12 ?_|refine z13 ?_|refine z20 ?_)|((with_reducible refine gR ?_);(refine z31 rfl ?_;intro K hK;(conv=>whnf)))|((intro _;skip)<;>(conv=>whnf))))
   all_goals exact .inr ⟨G',w',hle.trans hle2,hrow,rfl,MemFits.pre 1 rfl⟩
  have hno2:∀ x∈(l.take (i+1)).map (Pd.cut sw),¬ x.k=1:=fun x hx=>by
   rw [hnx] at hx
   rcases List.mem_append.1 hx with hx | hx
   ·exact hno x hx
   ·rw [List.mem_singleton.1 hx];exact hone
  by_cases hnone:y.k=2
  ·have hm2:ps.map (·.1)=((l.take (i+1)).map (Pd.cut sw)).filter (fun x=>!decide (x.k=2)):=by
    rw [hnx,List.filter_append,← hmap,List.filter_cons,if_neg (by simp [hnone])];simp
   clear hnx hym h12 hfy
   obtain ⟨yk,yf,yv,yl⟩:=y
   have hnone:yk=2:=hnone
   subst hnone
   clear hone
   simp only [Pd.Lays,Pd.cs,Pd.T.k,Pd.T.f,Pd.T.v,Pd.T.l] at c c0 c1 c2 c3 hA
   (repeat' (first|(with_reducible first|(refine hK _ _ ?_;clear hK K)|(refine hA ?_;clear hA hB A B)|(refine hB ?_;clear hA hB A B))|((with_reducible refine z25 ?_);intro K hK;(conv=>whnf))|(with_reducible refine z0 ?_)|((first|((with_reducible refine NV.i64 ?s ?_);case s=>omega)|with_reducible refine NIf.not_ ?_|((with_reducible refine NIf.decY ?s ?_);case s=>first|with_reducible rfl|omega)|((with_reducible refine NIf.decN ?s ?_);case s=>omega)|(with_reducible first|refine NN.cast ?_|refine NN.a5 ?_|refine NN.keep ?_)|((with_reducible refine NH.mk ?s ?_);case s=>(and_intros<;>first|with_reducible rfl|((with_reducible refine gOnes ?_);rfl)|((with_reducible refine gLen ?_);rfl)|omega))|((with_reducible refine NCall.isF 61 ?_);refine NCall.subw [0] _ _ (c) rfl (by decide) rfl ?_;rintro _ _ ⟨G',w',hle2,hrow,rfl,rfl⟩;refine ⟨Nat.le_of_ble_eq_true rfl,_,rfl,?_⟩)|(with_reducible refine NLd.of (by with_reducible assumption) ?_))<;>(conv=>whnf))|(with_reducible first|refine z3 ?_|refine z4 ?_|refine z5 ?_|refine z6 ?_)|((with_reducible refine z29 ?_);intro A B hA hB;(conv=>whnf))|(with_reducible first|refine z1 ?_|refine z2 ?_|refine z9 ?_)|((intro _;skip)<;>(conv=>whnf))))
   all_goals
    refine st_round (G',w,ps,i+1) ⟨hle.trans hle2,hlt,(show ps.length≤i+1 by omega),hno2,hm2,fun p hp=>Pd.Row.mono hle2 (hall p hp)⟩ (show l.length - (i+1)<l.length - i by omega) ?_ (MemFits.pre 4 (by simp only [hk,hpc];rfl))
    simp only [hk]
    repeat (first|exact FitsSl.nil|refine FitsSl.any ?_|refine FitsSl.cons (Fit1.int (by first | rfl | omega)) ?_|refine FitsSl.cons (Fit1.bool rfl) ?_|refine FitsSl.cons (Fit1.same (by intro h;cases h) (by with_reducible rfl)) ?_)
  ·have hm2:∀ w':Value,(ps++[(y,w')]).map (·.1)=((l.take (i+1)).map (Pd.cut sw)).filter (fun x=>!decide (x.k=2)):=fun w'=>by
    rw [hnx,List.filter_append,← hmap,List.filter_cons,if_pos (by simp [hnone])];simp
   clear hnx hym h12 hfy
   obtain ⟨yk,yf,yv,yl⟩:=y
   have hone:¬ yk=1:=hone
   have hnone:¬ yk=2:=hnone
   simp only [Pd.Lays,Pd.cs,Pd.T.k,Pd.T.f,Pd.T.v,Pd.T.l] at c c0 c1 c2 c3 hA
   (repeat' (first|(with_reducible first|(refine hK _ _ ?_;clear hK K)|(refine hA ?_;clear hA hB A B)|(refine hB ?_;clear hA hB A B))|((with_reducible refine z25 ?_);intro K hK;(conv=>whnf))|(with_reducible refine z0 ?_)|((first|((with_reducible refine NV.i64 ?s ?_);case s=>omega)|with_reducible refine NIf.not_ ?_|((with_reducible refine NIf.decY ?s ?_);case s=>omega)|((with_reducible refine NIf.decN ?s ?_);case s=>assumption)|(with_reducible first|refine NN.cast ?_|refine NN.a5 ?_|refine NN.keep ?_)|((with_reducible refine NH.mk ?s ?_);case s=>(and_intros<;>first|with_reducible rfl|((with_reducible refine gOnes ?_);rfl)|((with_reducible refine gLen ?_);rfl)|omega))|((with_reducible refine NCall.isF 61 ?_);refine NCall.subw [0] _ _ (c) rfl (by decide) rfl ?_;rintro _ _ ⟨G',w',hle2,hrow,rfl,rfl⟩;refine ⟨Nat.le_of_ble_eq_true rfl,_,rfl,?_⟩)|(with_reducible refine NLd.of (by with_reducible assumption) ?_))<;>(conv=>whnf))|(with_reducible first|refine z3 ?_|refine z4 ?_|refine z5 ?_|refine z6 ?_)|((with_reducible refine z29 ?_);intro A B hA hB;(conv=>whnf))|(with_reducible first|refine z1 ?_|refine z2 ?_|refine z9 ?_)|((intro _;skip)<;>(conv=>whnf))))
   all_goals
    rename_i v9
    refine st_round (G',v9,ps++[(⟨yk,yf,yv,yl⟩,w')],i+1) ⟨hle.trans hle2,hlt,by rw [List.length_append,hk];show t+1≤i+1;omega,hno2,hm2 w',fun x hx=>?_⟩ (show l.length - (i+1)<l.length - i by omega) ?_ (MemFits.pre 4 ?_)
    ·rcases List.mem_append.1 hx with hx | hx
     ·exact Pd.Row.mono hle2 (hall x hx)
     ·rw [List.mem_singleton.1 hx];exact hrow
    ·simp only [List.length_append,hk]
     repeat (first|exact FitsSl.nil|refine FitsSl.any ?_|refine FitsSl.cons (Fit1.int (by first | rfl | omega)) ?_|refine FitsSl.cons (Fit1.bool rfl) ?_|refine FitsSl.cons (Fit1.same (by intro h;cases h) (by with_reducible rfl)) ?_|refine FitsSl.cons (Fit1.sl rfl) ?_)
    ·simp only [autoM,List.take,List.length_append,hk,hpn]
     rw [show t+[((⟨yk,yf,yv,yl⟩:Pd.T),w')].length=t+1 from rfl]
     rfl
 ·have hkl:i=l.length:=by omega
  subst hkl
  rw [List.take_length] at hmap hno
  rw [Pd.fold_neg hno hmap]
  clear ih hff hno hmap hfl
  match ps,hk with
  | [],hk =>
   subst hk
   (repeat' (first|(with_reducible first|(refine hK _ _ ?_;clear hK K)|(refine hA ?_;clear hA hB A B)|(refine hB ?_;clear hA hB A B)|(refine hK _ ?_;clear hK K))|((with_reducible refine z25 ?_);intro K hK;(conv=>whnf))|(with_reducible refine z0 ?_)|((first|((with_reducible refine NIf.decN ?s ?_);case s=>omega)|((with_reducible refine NIf.yes ?s ?_);case s=>rfl)|(with_reducible refine NN.a5 ?_)|((with_reducible refine NH.mk ?s ?_);case s=>(and_intros<;>first|with_reducible rfl|((with_reducible refine gOnes ?_);rfl)|((with_reducible refine gLen ?_);rfl)|omega)))<;>(conv=>whnf))|(with_reducible first|refine z3 ?_|refine z4 ?_|refine z7 ?_|refine z8 ?_)|((with_reducible refine z29 ?_);intro A B hA hB;(conv=>whnf))|(with_reducible first|refine z1 ?_|refine z2 ?_|refine z10 ?_|refine z11 ?_|refine z12 ?_|refine z19 ?_)|((with_reducible refine gR ?_);(refine z31 rfl ?_;intro K hK;(conv=>whnf)))))
   all_goals exact .inr ⟨G,.slice none 0 0,hle,⟨SlOk.nil,fun k x hx=>by simp [Pd.T.l] at hx⟩,rfl,MemFits.pre 1 rfl⟩
  | [(⟨xk,xf,xv,xl⟩,u')],hk =>
   subst hk
   have hq:[((⟨xk,xf,xv,xl⟩:Pd.T),u')][0]?=some (⟨xk,xf,xv,xl⟩,u'):=rfl
   (repeat' (first|(with_reducible first|(refine hK _ _ ?_;clear hK K)|(refine hA ?_;clear hA hB A B)|(refine hB ?_;clear hA hB A B)|(refine hK _ ?_;clear hK K))|((with_reducible refine z25 ?_);intro K hK;(conv=>whnf))|(with_reducible refine z0 ?_)|((first|((with_reducible refine NIf.decN ?s ?_);case s=>omega)|((with_reducible refine NIf.yes ?s ?_);case s=>rfl)|((with_reducible refine NIf.no ?s ?_);case s=>rfl)|(with_reducible first|refine NN.lit ?_|refine NN.a5 ?_|refine NN.a6 ?_)|((with_reducible refine NH.mk ?s ?_);case s=>(and_intros<;>first|with_reducible rfl|((with_reducible refine gOnes ?_);rfl)|((with_reducible refine gLen ?_);rfl)|omega|(simp only [List.length_append,List.length_cons,List.length_nil];omega))))<;>(conv=>whnf))|(with_reducible first|refine z3 ?_|refine z4 ?_|refine z6 ?_|refine z7 ?_|refine z8 ?_)|((with_reducible refine z29 ?_);intro A B hA hB;(conv=>whnf))|(with_reducible first|refine z1 ?_|refine z2 ?_|refine z10 ?_|refine z11 ?_|refine z12 ?_|refine z19 ?_)|((with_reducible refine gR ?_);(refine z31 rfl ?_;intro K hK;(conv=>whnf)))))
   all_goals exact .inr ⟨G,u',hle,hall (⟨xk,xf,xv,xl⟩,u') (by simp),rfl,MemFits.pre 1 rfl⟩
  | x::y::r,hk =>
   have hlen:(x::y::r).length=r.length+2:=rfl
   have hX:∀ (g:List Pd.T→Pd.T),(match (x::y::r).map (·.1) with | []=>Pd.T.mk 2 0 0 [] | [x]=>x | x::y::r=>Pd.T.mk 6 0 0 (x::y::r))=Pd.T.mk 6 0 0 ((x::y::r).map (·.1)):=fun _=>rfl
   rw [show (match (x::y::r).map (·.1) with | []=>Pd.T.mk 2 0 0 [] | [x]=>x | x::y::r=>Pd.T.mk 6 0 0 (x::y::r))=Pd.T.mk 6 0 0 ((x::y::r).map (·.1)) from rfl]
   generalize hks:x::y::r=ks at *
   (repeat' (first|(with_reducible first|(refine hK _ _ ?_;clear hK K)|(refine hB ?_;clear hA hB A B)|(refine hK _ ?_;clear hK K))|((with_reducible refine z25 ?_);intro K hK;(conv=>whnf))|(with_reducible refine z0 ?_)|((first|((with_reducible refine NIf.decN ?s ?_);case s=>omega)|(with_reducible refine NN.a5 ?_)|((with_reducible refine NH.mk ?s ?_);case s=>(and_intros<;>first|with_reducible rfl|((with_reducible refine gOnes ?_);rfl)|((with_reducible refine gLen ?_);rfl)|omega)))<;>(conv=>whnf))|(with_reducible first|refine z3 ?_|refine z4 ?_|refine z6 ?_|refine z7 ?_|refine z8 ?_)|((with_reducible refine z29 ?_);intro A B hA hB;(conv=>whnf))|(with_reducible first|refine z1 ?_|refine z2 ?_|refine z10 ?_|refine z11 ?_|refine z19 ?_)|((with_reducible refine gR ?_);(refine z31 rfl ?_;intro K hK;(conv=>whnf)))))
   all_goals exact .inl ⟨G,w,ks,hle,rfl,hall,by simp only [Pd.cs,Pd.T.k,Pd.T.f,Pd.T.v,Pd.T.l,List.length_map,hk];rfl,by rw [hk];exact MemFits.pick [0,3] (by decide) rfl⟩
theorem refcut26_c:∀ (n:Nat) (F:Heap) (p:Pd.T) (u:Value) (sw:Int),Pd.size p≤n→Pd.size p≤1000000000000→Pd.fits p=true→Pd.Row F u p.l →
  NCall Tryz.prog 61 [.agg (Pd.cs p u),.int .i64 sw] [hpB F] fun r m=>Pd.Lays F (Pd.cut sw p) r m
 | 0,F,p,u,sw,hn,_,_,_=>absurd (Pd.size_pos p) (by omega)
 | n+1,F,⟨k,f,v,l⟩,u,sw,hn,hs,hf,hu=>by
  refine Pd.out_know (t:=24) ?_
  have hu:Pd.Row F u l:=hu
  have hok:=hu.ok
  obtain ⟨hsh,hfl⟩:=Pd.fits_mk hf
  have ih:∀ G,∀ x∈l,∀ w,Pd.Row G w x.l→NCall Tryz.prog 61 [.agg (Pd.cs x w),.int .i64 sw] [hpB G] fun r m=>Pd.Lays G (Pd.cut sw x) r m:=fun G x hx w hw=>refcut26_c n G x w sw (by have:=Pd.size_lt (k:=k) (f:=f) (v:=v) hx;omega) (by have:=Pd.size_lt (k:=k) (f:=f) (v:=v) hx;omega) (hfl x hx) hw
  have hff:∀ x∈l,Pd.fits (Pd.cut sw x)=true:=fun x hx=>Pd.cut_fits sw x (hfl x hx)
  rw [pd_cs]
  by_cases h5:k=5
  ·subst h5
   obtain ⟨rfl,rfl,hl2,hl8⟩:f=0∧v=0∧2≤l.length∧l.length≤8:=by omega
   rw [Pd.cut_5]
   exact refcut26_5 F l u sw hl8 hu hfl ih
  by_cases h6:k=6
  ·subst h6
   obtain ⟨rfl,rfl,hl2,hl8⟩:f=0∧v=0∧2≤l.length∧l.length≤8:=by omega
   rw [Pd.cut_6]
   exact refcut26_6 F l u sw hl8 hu hfl ih
  by_cases h4:k=4
  ·subst h4
   obtain ⟨rfl,rfl,hl1⟩:f=0∧v=0∧l.length=1:=by omega
   match l,hl1 with
   | [q],_ =>
    rw [Pd.cut_4]
    obtain ⟨A,cap,hA,c0,c1,c2,c3⟩:=hu.get (i:=0) (x:=q) rfl
    have c:=ih F q (by simp) _ hA
    have hfy:=hff q (by simp)
    clear ih hff hsh
    generalize Pd.cut sw q=y at *
    have hyk:=Pd.fits_k hfy
    obtain ⟨yk,yf,yv,yl⟩:=y
    obtain ⟨xk,xf,xv,xl⟩:=q
    simp only [Pd.Lays,Pd.cs,Pd.T.k,Pd.T.f,Pd.T.v,Pd.T.l] at c c0 c1 c2 c3 hA hyk
    refine ncall_of Tryz.func61 rfl (by decide) ?_
    by_cases h1:yk=1
    ·subst h1
     rw [if_pos (show (Pd.T.mk 1 yf yv yl).k≤2 from (by decide:(1:Int)≤2)),if_neg (show ¬ (Pd.T.mk 1 yf yv yl).k=2 from (by decide:¬ (1:Int)=2))]
     (repeat' (first|(with_reducible first|(refine hK _ _ ?_;clear hK K)|(refine hA ?_;clear hA hB A B)|(refine hB ?_;clear hA hB A B)|(refine hK _ ?_;clear hK K))|((with_reducible first|refine z25 ?_|refine z26 ?_);intro K hK;(conv=>whnf))|(with_reducible refine z0 ?_)|((first|((with_reducible refine NV.i64 ?s ?_);case s=>omega)|((with_reducible refine NIf.decY ?s ?_);case s=>with_reducible rfl)|((with_reducible refine NIf.decN ?s ?_);case s=>omega)|((with_reducible refine NIf.yes ?s ?_);case s=>rfl)|((with_reducible refine NIf.no ?s ?_);case s=>rfl)|(with_reducible first|refine NN.lit ?_|refine NN.a5 ?_|refine NN.a6 ?_)|((with_reducible refine NH.mk ?s ?_);case s=>(and_intros<;>first|with_reducible rfl|((with_reducible refine gOnes ?_);rfl)|((with_reducible refine gLen ?_);rfl)|omega))|((with_reducible refine NCall.isF 61 ?_);refine NCall.subw [0] _ _ (c) rfl (by decide) rfl ?_;rintro _ _ ⟨G',w',hle2,hrow,rfl,rfl⟩;refine ⟨Nat.le_of_ble_eq_true rfl,_,rfl,?_⟩)|(with_reducible refine NLd.of (by with_reducible assumption) ?_))<;>(conv=>whnf))|(with_reducible first|refine z3 ?_|refine z4 ?_|refine z6 ?_|refine z8 ?_)|((with_reducible refine z29 ?_);intro A B hA hB;(conv=>whnf))|(with_reducible first|refine z1 ?_|refine z2 ?_|refine z12 ?_)|((with_reducible refine gR ?_);(refine z31 rfl ?_;intro K hK;(conv=>whnf)))|((with_reducible refine gF ?_);(refine z33 rfl ?_;intro K hK;(conv=>whnf)))|((intro _;skip)<;>(conv=>whnf))))
     all_goals exact .inr ⟨G',.slice none 0 0,hle2,⟨SlOk.nil,fun k x hx=>by simp [Pd.T.l] at hx⟩,rfl,MemFits.pre 1 rfl⟩
    by_cases h2:yk=2
    ·subst h2
     rw [if_pos (show (Pd.T.mk 2 yf yv yl).k≤2 from (by decide:(2:Int)≤2)),if_pos (show (Pd.T.mk 2 yf yv yl).k=2 from rfl)]
     (repeat' (first|(with_reducible first|(refine hK _ _ ?_;clear hK K)|(refine hA ?_;clear hA hB A B)|(refine hB ?_;clear hA hB A B)|(refine hK _ ?_;clear hK K))|((with_reducible first|refine z25 ?_|refine z26 ?_);intro K hK;(conv=>whnf))|(with_reducible refine z0 ?_)|((first|((with_reducible refine NV.i64 ?s ?_);case s=>omega)|((with_reducible refine NIf.decY ?s ?_);case s=>with_reducible rfl)|((with_reducible refine NIf.decN ?s ?_);case s=>first|assumption|omega)|((with_reducible refine NIf.no ?s ?_);case s=>rfl)|(with_reducible first|refine NN.lit ?_|refine NN.a5 ?_|refine NN.a6 ?_)|((with_reducible refine NH.mk ?s ?_);case s=>(and_intros<;>first|with_reducible rfl|((with_reducible refine gOnes ?_);rfl)|((with_reducible refine gLen ?_);rfl)|omega))|((with_reducible refine NCall.isF 61 ?_);refine NCall.subw [0] _ _ (c) rfl (by decide) rfl ?_;rintro _ _ ⟨G',w',hle2,hrow,rfl,rfl⟩;refine ⟨Nat.le_of_ble_eq_true rfl,_,rfl,?_⟩)|(with_reducible refine NLd.of (by with_reducible assumption) ?_))<;>(conv=>whnf))|(with_reducible first|refine z3 ?_|refine z4 ?_|refine z6 ?_|refine z8 ?_)|((with_reducible refine z29 ?_);intro A B hA hB;(conv=>whnf))|(with_reducible first|refine z1 ?_|refine z2 ?_|refine z12 ?_)|((with_reducible refine gR ?_);(refine z31 rfl ?_;intro K hK;(conv=>whnf)))|((with_reducible refine gF ?_);(refine z33 rfl ?_;intro K hK;(conv=>whnf)))|((intro _;skip)<;>(conv=>whnf))))
     all_goals exact .inr ⟨G',.slice none 0 0,hle2,⟨SlOk.nil,fun k x hx=>by simp [Pd.T.l] at hx⟩,rfl,MemFits.pre 1 rfl⟩
    rw [if_neg (show ¬ (Pd.T.mk yk yf yv yl).k≤2 from by show ¬ yk≤2;omega)]
    (repeat' (first|(with_reducible first|(refine hK _ _ ?_;clear hK K)|(refine hA ?_;clear hA hB A B)|(refine hB ?_;clear hA hB A B)|(refine hK _ ?_;clear hK K))|((with_reducible first|refine z25 ?_|refine z26 ?_);intro K hK;(conv=>whnf))|(with_reducible refine z0 ?_)|((first|((with_reducible refine NIf.decY ?s ?_);case s=>with_reducible rfl)|((with_reducible refine NIf.decN ?s ?_);case s=>first|assumption|omega)|((with_reducible refine NIf.no ?s ?_);case s=>rfl)|(with_reducible first|refine NN.lit ?_|refine NN.a5 ?_|refine NN.a6 ?_)|((with_reducible refine NH.mk ?s ?_);case s=>(and_intros<;>first|with_reducible rfl|((with_reducible refine gOnes ?_);rfl)|((with_reducible refine gLen ?_);rfl)|omega))|((with_reducible refine NCall.isF 61 ?_);refine NCall.subw [0] _ _ (c) rfl (by decide) rfl ?_;rintro _ _ ⟨G',w',hle2,hrow,rfl,rfl⟩;refine ⟨Nat.le_of_ble_eq_true rfl,_,rfl,?_⟩)|(with_reducible refine NLd.of (by with_reducible assumption) ?_))<;>(conv=>whnf))|(with_reducible first|refine z3 ?_|refine z4 ?_|refine z6 ?_|refine z8 ?_)|((with_reducible refine z29 ?_);intro A B hA hB;(conv=>whnf))|(with_reducible first|refine z1 ?_|refine z2 ?_|refine z12 ?_)|((with_reducible refine gR ?_);(refine z31 rfl ?_;intro K hK;(conv=>whnf)))|((with_reducible refine gF ?_);(refine z33 rfl ?_;intro K hK;(conv=>whnf)))|((intro _;skip)<;>(conv=>whnf))))
    all_goals exact .inl ⟨G',_,[(⟨yk,yf,yv,yl⟩,w')],hle2,rfl,fun p hp=>by rw [List.mem_singleton.1 hp];exact hrow,rfl,MemFits.pick [0,4] (by decide) rfl⟩
  by_cases h35:k=3∧f=5
  ·obtain ⟨rfl,rfl⟩:=h35
   rw [Pd.cut_sw]
   refine ncall_of Tryz.func61 rfl (by decide) ?_
   by_cases hv:v=sw
   ·rw [if_pos hv]
    subst hv
    (repeat' (first|(with_reducible first|(refine hK _ _ ?_;clear hK K)|(refine hA ?_;clear hA hB A B)|(refine hK _ ?_;clear hK K))|((with_reducible first|refine z25 ?_|refine z26 ?_);intro K hK;(conv=>whnf))|(with_reducible refine z0 ?_)|((first|((with_reducible refine NIf.decY ?s ?_);case s=>with_reducible rfl)|(with_reducible refine NN.a5 ?_)|((with_reducible refine NH.mk ?s ?_);case s=>(and_intros<;>first|with_reducible rfl|((with_reducible refine gOnes ?_);rfl)|((with_reducible refine gLen ?_);rfl))))<;>(conv=>whnf))|(with_reducible first|refine z3 ?_|refine z4 ?_|refine z8 ?_)|((with_reducible refine z29 ?_);intro A B hA hB;(conv=>whnf))|(with_reducible first|refine z1 ?_|refine z2 ?_|refine z12 ?_)|((with_reducible refine gR ?_);(refine z31 rfl ?_;intro K hK;(conv=>whnf)))|((with_reducible refine gF ?_);(refine z33 rfl ?_;intro K hK;(conv=>whnf)))|((intro _;skip)<;>(conv=>whnf))))
    all_goals exact .inr ⟨F,.slice none 0 0,F.le_refl,⟨SlOk.nil,fun k x hx=>by simp [Pd.T.l] at hx⟩,rfl,MemFits.pre 1 rfl⟩
   ·rw [if_neg hv]
    (repeat' (first|(with_reducible first|(refine hK _ _ ?_;clear hK K)|(refine hA ?_;clear hA hB A B)|(refine hB ?_;clear hA hB A B)|(refine hK _ ?_;clear hK K))|((with_reducible first|refine z25 ?_|refine z26 ?_);intro K hK;(conv=>whnf))|(with_reducible refine z0 ?_)|((first|((with_reducible refine NIf.decY ?s ?_);case s=>with_reducible rfl)|((with_reducible refine NIf.decN ?s ?_);case s=>assumption)|(with_reducible refine NN.a5 ?_)|((with_reducible refine NH.mk ?s ?_);case s=>(and_intros<;>first|with_reducible rfl|((with_reducible refine gOnes ?_);rfl)|((with_reducible refine gLen ?_);rfl))))<;>(conv=>whnf))|(with_reducible first|refine z3 ?_|refine z4 ?_|refine z6 ?_|refine z8 ?_)|((with_reducible refine z29 ?_);intro A B hA hB;(conv=>whnf))|(with_reducible first|refine z1 ?_|refine z2 ?_|refine z12 ?_)|((with_reducible refine gR ?_);(refine z31 rfl ?_;intro K hK;(conv=>whnf)))|((with_reducible refine gF ?_);(refine z33 rfl ?_;intro K hK;(conv=>whnf)))|((intro _;skip)<;>(conv=>whnf))))
    all_goals exact .inr ⟨F,.slice none 0 0,F.le_refl,⟨SlOk.nil,fun k x hx=>by simp [Pd.T.l] at hx⟩,rfl,MemFits.pre 1 rfl⟩
  ·have hl0:l=[]:=List.eq_nil_of_length_eq_zero (by omega)
   have hk3:k<4:=by omega
   subst hl0
   rw [Pd.cut_no _ _ _ _ h35 (by omega)]
   clear ih hff hsh
   refine ncall_of Tryz.func61 rfl (by decide) ?_
   (repeat' (first|(with_reducible first|(refine hK _ _ ?_;clear hK K)|(refine hA ?_;clear hA hB A B)|(refine hB ?_;clear hA hB A B)|(refine hK _ ?_;clear hK K))|((with_reducible first|refine z25 ?_|refine z26 ?_);intro K hK;(conv=>whnf))|(with_reducible refine z0 ?_)|((first|((with_reducible refine NIf.decY ?s ?_);case s=>assumption)|((with_reducible refine NIf.decN ?s ?_);case s=>first|assumption|omega)|((with_reducible refine NIf.no ?s ?_);case s=>rfl)|(with_reducible first|refine NIf.dec (fun _=>?_) (fun _=>?_)|refine NN.a5 ?_)|((with_reducible refine NH.mk ?s ?_);case s=>(and_intros<;>first|with_reducible rfl|((with_reducible refine gOnes ?_);rfl)|((with_reducible refine gLen ?_);rfl))))<;>(conv=>whnf))|(with_reducible first|refine z3 ?_|refine z4 ?_|refine z6 ?_|refine z8 ?_)|((with_reducible refine z29 ?_);intro A B hA hB;(conv=>whnf))|(with_reducible first|refine z1 ?_|refine z2 ?_|refine z12 ?_)|((with_reducible refine gR ?_);(refine z31 rfl ?_;intro K hK;(conv=>whnf)))|((with_reducible refine gF ?_);(refine z33 rfl ?_;intro K hK;(conv=>whnf)))|((intro _;skip)<;>(conv=>whnf))))
   all_goals exact .inr ⟨F,u,F.le_refl,hu,rfl,MemFits.pre 1 rfl⟩
end Go.Proofs.YtaolcaggdddkpaaGreat
