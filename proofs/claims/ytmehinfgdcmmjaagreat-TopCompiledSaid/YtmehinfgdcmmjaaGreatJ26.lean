import Derived.Test.YtmehinfgdcmmjaaGreatJ22
import Derived.Test.YtmehinfgdcmmjaaGreatJ25
import Derived.Test.YtmehinfgdcmmjaaGreatJ24
import Derived.Test.YtmehinfgdcmmjaaGreatJ1
import Derived.Lib.Join
import Derived.Lib.ItoaLen
namespace Go.Proofs.YtmehinfgdcmmjaaGreat
open Go.Sx
set_option maxRecDepth 20000
set_option linter.unusedSimpArgs false
set_option linter.unusedVariables false
set_option maxHeartbeats 4000000
theorem kz (b4 b5 b6:Nat) (x0 x1 x2 x3 x4 x5 x6 x7:AV) (a e:Int) :
  bK Tryz.prog 67 [.ptr 0 ⟨b4,0,none⟩ 0,.ptr 1 ⟨b5,0,none⟩ 0,.ptr 2 ⟨b6,0,none⟩ 0] [⟨⟨b4,0,none⟩,[x0,x1,x2,x3,x4,x5,x6,x7],.var 71⟩,⟨⟨b5,0,none⟩,[.int .i64 a],.var 3⟩,⟨⟨b6,0,none⟩,[.int .i64 e],.var 40⟩] .returning
   fun u' m'=>settle u' = .returning∧m'=[⟨⟨b4,0,none⟩,[x0,x1,x2,x3,x4,x5,x6,x7],.var 71⟩,⟨⟨b5,0,none⟩,[.int .i64 a],.var 3⟩,⟨⟨b6,0,none⟩,[.int .i64 e],.var 40⟩]:=by
 refine ii (u':=.returning) (rv:=.raw .nilIface) Tryz.func67 rfl (by decide) rfl (fun c₀ cs hu=>.inr ⟨by simp [recoverD,hu],rfl,rfl⟩) (fun K hK=>?_)
 conv=>whnf
 refine hK _ ?_
 clear hK K
 repeat' first|(refine ai ?_;(try clear hP hK Kp K);try clear hK K)|refine sxW ?_ ?_<;>intro _|(intro K Kp hK hP _;conv=>whnf)|(intro K hK _;conv=>whnf)
 all_goals exact ⟨.inr rfl,rfl,rfl⟩
theorem k6 (b4 b5 b6:Nat) (x0 x1 x2 x3 x4 x5 x6 x7:AV) (a e at_:Int) :
  bK Tryz.prog 67 [.ptr 0 ⟨b4,0,none⟩ 0,.ptr 1 ⟨b5,0,none⟩ 0,.ptr 2 ⟨b6,0,none⟩ 0] [⟨⟨b4,0,none⟩,[x0,x1,x2,x3,x4,x5,x6,x7],.var 71⟩,⟨⟨b5,0,none⟩,[.int .i64 a],.var 3⟩,⟨⟨b6,0,none⟩,[.int .i64 e],.var 40⟩] (.panicking (Ps.wrong at_))
   fun u' m'=>settle u' = .returning∧∃ m2,m'=[⟨⟨b4,0,none⟩,[.int .i64 0,.int .i64 0,.int .i64 0,.int .i64 0,.raw (.slice none 0 0),.int .i64 0,.int .i64 0,.raw (.slice none 0 0)],.var 71⟩,⟨⟨b5,0,none⟩,[.int .i64 at_],.var 3⟩,⟨⟨b6,0,none⟩,[.int .i64 10],.var 40⟩]++m2:=by
 refine ii (u':=.panicking [{ v:=.iface 129 (.int .i64 at_),recovered:=true }]) (rv:=.ifc 129 (.int .i64 at_)) Tryz.func67 rfl (by decide) rfl (fun c₀ cs hu=>.inl (by simp [recoverD,hu,Ps.wrong];rfl)) (fun K hK=>?_)
 conv=>whnf
 refine hK _ ?_
 clear hK K
 repeat' first|(refine ai ?_;(try clear hP hK Kp K);try clear hK K)|refine sxW ?_ ?_<;>intro _|(intro K Kp hK hP _;conv=>whnf)|(intro K hK _;conv=>whnf)
 all_goals exact ⟨.inl rfl,rfl,_,rfl⟩
theorem o4 (F:Heap) (tx:List UInt8) (hs:tx.length≤4000) (L:List (Lx.B × List UInt8)) (hL:Lx.toks tx=some L) (hl:L.length≤500):NCall Tryz.prog 66 [.str tx] [hpB F] fun r m =>
  ∃ F' v,F.le F'∧m=[hpB F']∧r = .tup [.hs v (Lx.res tx L).length,.int .i64 0,.int .i64 0]∧aH F' 4 (fun x vs=>vs=Lx.tokV x) v (Lx.res tx L) :=
 (re F tx hs).mono fun r m h=>by
  rcases h with ⟨L',F',v,h1,h2,h3,h4,h5,h6⟩ | ⟨h1,_⟩
  ·rw [hL] at h1
   injection h1 with h1
   subst h1
   exact ⟨F',v,h3,h4,h5,h6⟩
  ·exact (h1 ⟨L,hL,hl⟩).elim
theorem Lx.res_b (tx:List UInt8) (L:List (Lx.B × List UInt8)):(Lx.res tx L).map Lx.b=L.map (·.1)++[⟨4,0,[]⟩]:=by
 unfold Lx.res
 rw [List.map_append,List.map_map]
 congr 1
end Go.Proofs.YtmehinfgdcmmjaaGreat
namespace Go.Sx
theorem bK.fits {P:Program} {g:FuncId} {args:List AV} {m:List Blk} {u:FrameMode} {K K':FrameMode→List Blk→Prop} (h:bK P g args m u K) (hk:∀ u' m',K u' m'→∃ m'',MemFits m' m''∧K' u' m''):bK P g args m u K':=by
 unfold bK at h ⊢
 refine ⟨h.1,fun w hm=>(h.2 w hm).mono fun e u' w' hq=>?_⟩
 obtain ⟨m',h1,rfl,h3,h4,h5⟩:=hq
 obtain ⟨m'',h6,h7⟩:=hk u' m' h1
 exact ⟨m'',h7,rfl,(h6 w' h3).1,h4,fun b hb=>h5.1 b ((h6 w' h3).2.1 b hb),fun b hb=>h5.2 b ((h6 w' h3).2.2 b hb)⟩
end Go.Sx
namespace Go.Proofs.YtmehinfgdcmmjaaGreat
open Go.Sx
set_option maxRecDepth 20000
set_option linter.unusedSimpArgs false
set_option linter.unusedVariables false
set_option maxHeartbeats 4000000
theorem Ps.good_res {tx:List UInt8} {L:List (Lx.B × List UInt8)} (hl:L.length≤500):Ps.Good (Lx.res tx L):=by
 have hlen:(Lx.res tx L).length=L.length+1:=by simp [Lx.res]
 refine ⟨by omega,fun i x hx hk=>?_⟩
 have hi:=(List.getElem?_eq_some_iff.1 hx).1
 rcases Nat.lt_or_ge i L.length with h | h
 ·omega
 ·obtain rfl:i=L.length:=by omega
  unfold Lx.res at hx
  rw [List.getElem?_append_right (by simp),List.length_map,Nat.sub_self] at hx
  injection hx with hx
  subst hx
  exact (hk rfl).elim
theorem mp (g:FuncId) (tx:List UInt8) (hs:tx.length≤4000) (L:List (Lx.B × List UInt8)) (hL:Lx.toks tx=some L) (hl:L.length≤500) (q:Ps.R Po.T) (hg:∀ v,Ps.P27 v (Lx.res tx L) g q 0) (F:Heap) :
  NCall Tryz.prog 40 [.str tx,.fn g [] []] [hpB F] fun r m =>
   (∃ x G pu u,Ps.whole ((Lx.res tx L).map Lx.b) q = .ok x 0∧F.le G∧Po.At G x pu u∧r = .tup [.agg (Po.cs x pu u),.int .i64 0,.int .i64 0]∧m=[hpB G]) ∨
   (∃ j y G,Ps.whole ((Lx.res tx L).map Lx.b) q = .bad j∧(Lx.res tx L)[j]?=some y∧F.le G∧r = .tup [.agg [.int .i64 0,.int .i64 0,.int .i64 0,.int .i64 0,.raw (.slice none 0 0),.int .i64 0,.int .i64 0,.raw (.slice none 0 0)],.int .i64 y.at_,.int .i64 10]∧m=[hpB G]):=by
 refine NCall.fits (K:=fun r m=>(∃ x G pu u,Ps.whole ((Lx.res tx L).map Lx.b) q = .ok x 0∧F.le G∧Po.At G x pu u∧r.den=(AV.tup [.agg (Po.cs x pu u),.int .i64 0,.int .i64 0]).den∧MemFits m [hpB G]) ∨
   (∃ j y G,Ps.whole ((Lx.res tx L).map Lx.b) q = .bad j∧(Lx.res tx L)[j]?=some y∧F.le G∧r.den=(AV.tup [.agg [.int .i64 0,.int .i64 0,.int .i64 0,.int .i64 0,.raw (.slice none 0 0),.int .i64 0,.int .i64 0,.raw (.slice none 0 0)],.int .i64 y.at_,.int .i64 10]).den∧MemFits m [hpB G])) ?_ fun r m' hq=>?_
 rotate_left
 ·rcases hq with ⟨x,G,pu,u,h1,h2,h3,h4,h5⟩ | ⟨j,y,G,h1,h2,h3,h4,h5⟩
  ·exact ⟨_,_,h4.symm,h5,.inl ⟨x,G,pu,u,h1,h2,h3,rfl,rfl⟩⟩
  ·exact ⟨_,_,h4.symm,h5,.inr ⟨j,y,G,h1,h2,h3,rfl,rfl⟩⟩
 have hgood:=Ps.good_res (tx:=tx) hl
 have hlen:(Lx.res tx L).length=L.length+1:=by simp [Lx.res]
 have clex:=o4 F tx hs L hL hl
 generalize Lx.res tx L=l at *
 have hn:=hgood.few
 refine eG Tryz.func40 rfl (by decide) (fun K hK=>?_)
 conv=>whnf
 refine hK _ ?_
 clear hK K
 refine ez (ll ?_)
 repeat' first|(refine ai ?_;(try clear hP hK Kp K);try clear hK K)|refine sxW ?_ ?_<;>intro _|(intro K Kp hK hP _;conv=>whnf)|(intro K hK _;conv=>whnf)
 refine ez (ll ?_)
 repeat' first|(intro K Kp hK hP;(with_reducible refine gCX ?_);(refine aG.of ?_;first|(refine cN [0] clex ?_;rintro _ _ ⟨F',v,hle,rfl,rfl,hrow⟩;refine cR ?_)))|(refine ai ?_;(try clear hP hK Kp K);try clear hK K)|refine sxW ?_ ?_<;>intro _|(intro K Kp hK hP _;conv=>whnf)|(intro K hK _;conv=>whnf)
 have hv2:Ps.Toks F' v l:=hrow
 have hok:=hv2.ok
 refine ez (ll ?_)
 repeat' first|((first|intro A B hA hB|intro K hK|skip);first|((with_reducible refine NIf.yes ?s ?_);(case s=>simp ;done);conv=>whnf)|((with_reducible refine NIf.no ?s ?_);(case s=>simp ;done);conv=>whnf))|(refine ai ?_;(try clear hP hK Kp K);(try clear hK K);try clear hA hB A B)|refine sxW ?_ ?_<;>intro _|(intro K Kp hK hP _;conv=>whnf)|(intro K hK _;conv=>whnf)
 refine ez (ou ?_)
 conv=>whnf
 refine ll ?_
 have cg:=fun b=>hg v F' b hv2
 have cn:=fun G (h:F'.le G) b j (hj:j<l.length)=>fJ G v l (Ps.Toks.mono h hv2) hn b (List.getElem?_eq_getElem hj)
 have cf:=fun G (h:F'.le G) b j (hj:j<l.length)=>eK G v l (Ps.Toks.mono h hv2) hn b (List.getElem?_eq_getElem hj)
 unfold Ps.pB at cg cn cf
 have cp:=fun b4 b5 b6 x0 x1 x2 x3 x4 x5 x6 x7 a e at_=>(k6 b4 b5 b6 x0 x1 x2 x3 x4 x5 x6 x7 a e at_).fits (K':=fun u' m'=>settle u' = .returning∧m'=[⟨⟨b4,0,none⟩,[.int .i64 0,.int .i64 0,.int .i64 0,.int .i64 0,.raw (.slice none 0 0),.int .i64 0,.int .i64 0,.raw (.slice none 0 0)],.var 71⟩,⟨⟨b5,0,none⟩,[.int .i64 at_],.var 3⟩,⟨⟨b6,0,none⟩,[.int .i64 10],.var 40⟩]) fun u' m' ⟨h1,m2,h2⟩=>⟨_,by rw [h2];exact MemFits.pre 3 rfl,h1,rfl⟩
 repeat' first|(intro K Kp hK hP;(with_reducible refine gCX ?_);first|(refine cX [0,4] (cg _) rfl rfl ?_ ?_;((rintro _ _ ⟨x,j,G,pu,u,h1,h2,h3,h4,h5,rfl,rfl⟩)<;>refine ⟨rfl,_,rfl,?_⟩);rotate_right;((rintro _ _ ⟨j,y,G,k,h1,h2,rfl,h4,rfl⟩)<;>refine ⟨rfl,?_⟩);all_goals (conv=>whnf))|(refine cX [0,4] (cf G h4 _ j h3) rfl rfl ?_ ?_;((rintro _ _ ⟨⟩)<;>refine ⟨rfl,_,rfl,?_⟩);rotate_right;((rintro _ _ ⟨rfl,rfl⟩)<;>refine ⟨rfl,?_⟩);all_goals (conv=>whnf))|(refine aG.of ?_;first|refine cS [0,4] (cn G h4 _ j h3) ?_))|(refine ai ?_;(try clear hP hK Kp K);try clear hK K)|refine sxW ?_ ?_<;>intro _|(intro K Kp hK hP _;conv=>whnf)|(intro K hK _;conv=>whnf)
 ·rename_i b4 b5 b6 b7
  refine gk (by intro h;cases h) rfl (bK.subw [1,2,3] [.ptr 0 ⟨b4,0,none⟩ 0,.ptr 1 ⟨b5,0,none⟩ 0,.ptr 2 ⟨b6,0,none⟩ 0] _ (cp b4 b5 b6 _ _ _ _ _ _ _ _ _ _ _) rfl (by decide) rfl fun u' bs g=>?_)
  obtain ⟨g1,rfl⟩:=g
  refine ⟨Nat.le_of_ble_eq_true rfl,?_⟩
  conv=>whnf
  refine ⟨g1,?_⟩
  conv=>whnf
  repeat' first|(refine ai ?_;(try clear hP hK Kp K);try clear hK K)|refine sxW ?_ ?_<;>intro _|(intro K Kp hK hP _;conv=>whnf)|(intro K hK _;conv=>whnf)
  all_goals exact .inr ⟨j,y,G,by rw [h1];rfl,h2,hle.trans h4,rfl,MemFits.pre 1 rfl⟩
 ·rename_i b4 b5 b6 b7 hk
  refine gk (by intro h;cases h) rfl (bK.subw [1,2,3] [.ptr 0 ⟨b4,0,none⟩ 0,.ptr 1 ⟨b5,0,none⟩ 0,.ptr 2 ⟨b6,0,none⟩ 0] _ (kz b4 b5 b6 _ _ _ _ _ _ _ _ _ _) rfl (by decide) rfl fun u' bs g=>?_)
  obtain ⟨g1,rfl⟩:=g
  refine ⟨Nat.le_of_ble_eq_true rfl,?_⟩
  conv=>whnf
  refine ⟨g1,?_⟩
  conv=>whnf
  repeat' first|(refine ai ?_;(try clear hP hK Kp K);try clear hK K)|refine sxW ?_ ?_<;>intro _|(intro K Kp hK hP _;conv=>whnf)|(intro K hK _;conv=>whnf)
  all_goals exact .inl ⟨x,G,pu,u,by rw [h1];exact if_pos (by rw [Ps.tk_b (List.getElem?_eq_getElem h3)];exact hk),hle.trans h4,h5,rfl,MemFits.pre 1 rfl⟩
 ·rename_i b4 b5 b6 b7 hk
  refine gk (by intro h;cases h) rfl (bK.subw [1,2,3] [.ptr 0 ⟨b4,0,none⟩ 0,.ptr 1 ⟨b5,0,none⟩ 0,.ptr 2 ⟨b6,0,none⟩ 0] _ (cp b4 b5 b6 _ _ _ _ _ _ _ _ _ _ _) rfl (by decide) rfl fun u' bs g=>?_)
  obtain ⟨g1,rfl⟩:=g
  refine ⟨Nat.le_of_ble_eq_true rfl,?_⟩
  conv=>whnf
  refine ⟨g1,?_⟩
  conv=>whnf
  repeat' first|(refine ai ?_;(try clear hP hK Kp K);try clear hK K)|refine sxW ?_ ?_<;>intro _|(intro K Kp hK hP _;conv=>whnf)|(intro K hK _;conv=>whnf)
  all_goals exact .inr ⟨j,_,G,by rw [h1];exact if_neg (by rw [Ps.tk_b (List.getElem?_eq_getElem h3)];exact hk),List.getElem?_eq_getElem h3,hle.trans h4,rfl,MemFits.pre 1 rfl⟩
namespace Pd
def word (f:Int):List UInt8 :=
 if f=0 then [115,114,99] else if f=1 then [100,115,116] else if f=2 then [107,105,110,100] else if f=3 then [116,97,103] else if f=4 then [112,111,114,116] else [115,119,105,116,99,104]
end Pd
end Go.Proofs.YtmehinfgdcmmjaaGreat
