import Derived.Test.YtmehinfgdcmmjaaGreatJ27
import Derived.Test.YtmehinfgdcmmjaaGreatJ26
import Derived.Test.YtmehinfgdcmmjaaGreatJ24
namespace Go.Proofs.YtmehinfgdcmmjaaGreat
open Go.Sx
set_option maxRecDepth 20000
set_option linter.unusedVariables false
namespace Ps
open Lx (B)
end Ps
namespace Ps
open Lx (B)
end Ps
set_option linter.unusedSimpArgs false
set_option maxHeartbeats 4000000
theorem lf (v:Value) (l:List Lx.T) (hl:Ps.Good l) (h0:0<l.length):Ps.P27 v l 42 (Ps.rows (l.map Lx.b) (Ps.step (l.map Lx.b) (l.map Lx.b).length) 0) 0:=by
 have hlen:(l.map Lx.b).length=l.length:=List.length_map ..
 exact gd v l hl (Ps.step (l.map Lx.b) (l.map Lx.b).length) 0 h0 fun i' h1 h2=>mS v l hl (Ps.step (l.map Lx.b) (l.map Lx.b).length) i' h2 fun i'' h3 h4=>jt v l hl (l.map Lx.b).length i'' (by rw [hlen];omega) h4
theorem qQ (v:Value) (l:List Lx.T) (q:Ps.R Po.T) (hq:Ps.P27 v l 42 q 0):Ps.P27 v l 41 q 0:=by
 intro F b hv
 have cp:=hq F b hv
 refine aG.fits (K:=fun r m=>∃ p j G pu u,q = .ok p j∧0≤j∧j<l.length∧F.le G∧Po.At G p pu u∧r.den=(AV.agg (Po.cs p pu u)).den∧MemFits m [hpB G,Ps.pB b v l.length j]) (Kp:=fun ch m=>∃ j x G k,q = .bad j∧l[j]?=some x∧ch=Ps.wrong x.at_∧F.le G∧MemFits m [hpB G,Ps.pB b v l.length k]) ?_ (fun r m' ⟨p,j,G,pu,u,h1,h2,h3,h4,h5,h6,h7⟩=>⟨_,_,h6.symm,h7,p,j,G,pu,u,h1,h2,h3,h4,h5,rfl,rfl⟩) (fun ch m' ⟨j,x,G,k,h1,h2,h3,h4,h5⟩=>⟨_,h5,j,x,G,k,h1,h2,h3,h4,rfl⟩)
 unfold Ps.pB at cp ⊢
 refine az Tryz.func41 rfl (by decide) ?_
 repeat' first|(intro K Kp hK hP;(with_reducible refine gCX ?_);(refine cX [0,1] cp rfl rfl ?_ ?_;((rintro _ _ ⟨p,j,G,pu,u,h1,h2,h3,h4,h5,rfl,rfl⟩)<;>refine ⟨rfl,_,rfl,?_⟩);rotate_right;((rintro _ _ ⟨j,x,G,k,h1,h2,rfl,h4,rfl⟩)<;>refine ⟨rfl,?_⟩);all_goals (conv=>whnf)))|(refine ai ?_;(try clear hP hK Kp K);try clear hK K)|refine sxW ?_ ?_<;>intro _|(intro K Kp hK hP _;conv=>whnf)|(intro K hK _;conv=>whnf)
 ·exact ⟨j,x,G,k,h1,h2,rfl,h4,MemFits.pre 2 rfl⟩
 ·exact ⟨p,j,G,pu,u,h1,h2,h3,h4,h5,rfl,MemFits.pre 2 rfl⟩
theorem nQ (tx:List UInt8) (hs:tx.length≤4000) (L:List (Lx.B × List UInt8)) (hL:Lx.toks tx=some L) (hl:L.length≤500) (F:Heap) :
  NCall Tryz.prog 19 [.str tx] [hpB F] fun r m =>
   (∃ x G pu u,Ps.whole ((Lx.res tx L).map Lx.b) (Ps.rows ((Lx.res tx L).map Lx.b) (Ps.step ((Lx.res tx L).map Lx.b) ((Lx.res tx L).map Lx.b).length) 0) = .ok x 0∧F.le G∧Po.At G x pu u∧r = .tup [.agg (Po.cs x pu u),.int .i64 0,.int .i64 0]∧m=[hpB G]) ∨
   (∃ j y G,Ps.whole ((Lx.res tx L).map Lx.b) (Ps.rows ((Lx.res tx L).map Lx.b) (Ps.step ((Lx.res tx L).map Lx.b) ((Lx.res tx L).map Lx.b).length) 0) = .bad j∧(Lx.res tx L)[j]?=some y∧F.le G∧r = .tup [.agg [.int .i64 0,.int .i64 0,.int .i64 0,.int .i64 0,.raw (.slice none 0 0),.int .i64 0,.int .i64 0,.raw (.slice none 0 0)],.int .i64 y.at_,.int .i64 10]∧m=[hpB G]):=by
 have h0:0<(Lx.res tx L).length:=by simp [Lx.res]
 have cw:=mp 41 tx hs L hL hl _ (fun v=>qQ v _ _ (lf v _ (Ps.good_res hl) h0)) F
 refine NCall.fits (K:=fun r m=>(∃ x G pu u,Ps.whole ((Lx.res tx L).map Lx.b) (Ps.rows ((Lx.res tx L).map Lx.b) (Ps.step ((Lx.res tx L).map Lx.b) ((Lx.res tx L).map Lx.b).length) 0) = .ok x 0∧F.le G∧Po.At G x pu u∧r.den=(AV.tup [.agg (Po.cs x pu u),.int .i64 0,.int .i64 0]).den∧MemFits m [hpB G]) ∨
   (∃ j y G,Ps.whole ((Lx.res tx L).map Lx.b) (Ps.rows ((Lx.res tx L).map Lx.b) (Ps.step ((Lx.res tx L).map Lx.b) ((Lx.res tx L).map Lx.b).length) 0) = .bad j∧(Lx.res tx L)[j]?=some y∧F.le G∧r.den=(AV.tup [.agg [.int .i64 0,.int .i64 0,.int .i64 0,.int .i64 0,.raw (.slice none 0 0),.int .i64 0,.int .i64 0,.raw (.slice none 0 0)],.int .i64 y.at_,.int .i64 10]).den∧MemFits m [hpB G])) ?_ fun r m' hq=>?_
 rotate_left
 ·rcases hq with ⟨x,G,pu,u,h1,h2,h3,h4,h5⟩ | ⟨j,y,G,h1,h2,h3,h4,h5⟩
  ·exact ⟨_,_,h4.symm,h5,.inl ⟨x,G,pu,u,h1,h2,h3,rfl,rfl⟩⟩
  ·exact ⟨_,_,h4.symm,h5,.inr ⟨j,y,G,h1,h2,h3,rfl,rfl⟩⟩
 generalize Ps.whole ((Lx.res tx L).map Lx.b) (Ps.rows ((Lx.res tx L).map Lx.b) (Ps.step ((Lx.res tx L).map Lx.b) ((Lx.res tx L).map Lx.b).length) 0)=q at *
 refine aA Tryz.func19 rfl (by decide) ?_
 rcases q with ⟨x,i⟩ | j
 ·have cw1:NCall Tryz.prog 40 [.str tx,.fn 41 [] []] [hpB F] fun r m=>∃ G pu u,i=0∧F.le G∧Po.At G x pu u∧r = .tup [.agg (Po.cs x pu u),.int .i64 0,.int .i64 0]∧m=[hpB G]:=cw.mono fun r m h=>by
   rcases h with ⟨x',G,pu,u,h1,h2,h3,h4,h5⟩ | ⟨j,y,G,h1,_⟩
   ·cases h1
    exact ⟨G,pu,u,rfl,h2,h3,h4,h5⟩
   ·cases h1
  repeat' first|(intro K hK;(with_reducible refine gC ?_);(refine cN [0] cw1 ?_;rintro _ _ ⟨G,pu,u,h1,h2,h3,rfl,rfl⟩;refine cR ?_))|(refine sxZ ?_;try clear hK K)|refine sxW ?_ ?_<;>intro _|(intro K hK _;conv=>whnf)
  all_goals exact .inl ⟨x,G,pu,u,by rw [h1],h2,h3,rfl,MemFits.pre 1 rfl⟩
 ·have cw1:NCall Tryz.prog 40 [.str tx,.fn 41 [] []] [hpB F] fun r m=>∃ y G,(Lx.res tx L)[j]?=some y∧F.le G∧r = .tup [.agg [.int .i64 0,.int .i64 0,.int .i64 0,.int .i64 0,.raw (.slice none 0 0),.int .i64 0,.int .i64 0,.raw (.slice none 0 0)],.int .i64 y.at_,.int .i64 10]∧m=[hpB G]:=cw.mono fun r m h=>by
   rcases h with ⟨x',G,pu,u,h1,_⟩ | ⟨j,y,G,h1,h2,h3,h4,h5⟩
   ·cases h1
   ·cases h1
    exact ⟨y,G,h2,h3,h4,h5⟩
  repeat' first|(intro K hK;(with_reducible refine gC ?_);(refine cN [0] cw1 ?_;rintro _ _ ⟨y,G,h2,h3,rfl,rfl⟩;refine cR ?_))|(refine sxZ ?_;try clear hK K)|refine sxW ?_ ?_<;>intro _|(intro K hK _;conv=>whnf)
  all_goals exact .inr ⟨j,y,G,rfl,h2,h3,rfl,MemFits.pre 1 rfl⟩
namespace Lx
inductive O where
 | ok (l:List T)
 | bad (at_ e:Int)
def run (tx:List UInt8):Nat→Nat→List T→O
 | 0,_,_=>.bad 0 0
 | f+1,i,out=>if sk tx i=tx.length then .ok (out++[⟨4,0,[],tx.length⟩]) else match nextB (tx.drop (sk tx i)) with
  | none=>.bad (sk tx i:Nat) 10
  | some (b,n)=>if out.length=500 then .bad (sk tx i:Nat) 6 else run tx f (sk tx i+n) (out++[⟨b.k,b.n,b.s,(sk tx i:Nat)⟩])
def all (tx:List UInt8):O:=run tx (tx.length+1) 0 []
theorem run_more (tx:List UInt8):∀ (f g i:Nat) (out:List T),i≤tx.length→tx.length - i<f→tx.length - i<g→run tx f i out=run tx g i out
 | 0,g,i,out,_,h,_=>by omega
 | f+1,0,i,out,_,_,h=>by omega
 | f+1,g+1,i,out,hi,h1,h2=>by
  have hsk:=drop_sk tx i hi
  rw [run,run]
  by_cases hj:sk tx i=tx.length
  ·rw [if_pos hj,if_pos hj]
  ·rw [if_neg hj,if_neg hj]
   cases hn:nextB (tx.drop (sk tx i)) with
   | none=>rfl
   | some bn =>
    obtain ⟨b,n⟩:=bn
    have hp:=nextB_pos hn
    rw [List.length_drop] at hp
    dsimp only
    split
    ·rfl
    ·exact run_more tx f g _ _ (by omega) (by omega) (by omega)
theorem run_cases (tx:List UInt8):∀ (f i:Nat) (out:List T),St tx i out→tx.length - i<f →
  (∃ L,toks tx=some L∧L.length≤500∧run tx f i out = .ok (res tx L))∨(toks tx=none∧∃ a,run tx f i out = .bad a 10)∨(¬ good tx∧∃ a,run tx f i out = .bad a 6)
 | 0,i,out,_,h=>by omega
 | f+1,i,out,hst,h=>by
  have hsk:=drop_sk tx i hst.le
  rw [run]
  by_cases hj:sk tx i=tx.length
  ·rw [if_pos hj]
   obtain ⟨L,h1,h2,h3⟩:=hst.done hj
   exact .inl ⟨L,h1,h2,by rw [h3]⟩
  ·rw [if_neg hj]
   have hlt:sk tx i<tx.length:=by omega
   cases hn:nextB (tx.drop (sk tx i)) with
   | none =>
    obtain ⟨pre,h1,h2⟩:=hst.is
    rw [hsk.1] at hn
    have hne:skip (tx.drop i)≠[]:=by
     rw [← hsk.1];intro e2
     have:=congrArg List.length e2
     rw [List.length_drop] at this
     simp at this;omega
    rw [toks_none hne hn] at h2
    exact .inr (.inl ⟨h2,_,rfl⟩)
   | some bn =>
    obtain ⟨b,n⟩:=bn
    obtain ⟨g1,g2,g3,g4⟩:=hst.next hlt hn
    dsimp only
    by_cases hf:out.length=500
    ·rw [if_pos hf]
     exact .inr (.inr ⟨g4 hf,_,rfl⟩)
    ·rw [if_neg hf]
     have:=hst.few
     exact run_cases tx f _ _ (g3 (by omega)) (by omega)
theorem all_cases (tx:List UInt8) :
  (∃ L,toks tx=some L∧L.length≤500∧all tx = .ok (res tx L))∨(toks tx=none∧∃ a,all tx = .bad a 10)∨(¬ good tx∧∃ a,all tx = .bad a 6):=run_cases tx _ 0 [] (St.begin tx) (by omega)
end Lx
end Go.Proofs.YtmehinfgdcmmjaaGreat
