import Derived.Test.YtmehinfgdcmmjaaGreatDoorJ35
import Derived.Test.YtmehinfgdcmmjaaGreatDoorJ36
import Derived.Test.YtmehinfgdcmmjaaGreatDoorJ32
namespace Go.Proofs.YtmehinfgdcmmjaaGreatDoor
open Go.Sx
set_option maxRecDepth 20000
set_option linter.unusedSimpArgs false
set_option linter.unusedVariables false
set_option maxHeartbeats 4000000
set_option linter.unusedVariables false
theorem policy29_c (v:Value) (l:List Lx.T) (hl:Ps.Good l) (h0:0<l.length):Ps.P27 v l 89 (Ps.rows (l.map Lx.b) (Ps.step (l.map Lx.b) (l.map Lx.b).length) 0) 0:=by
 have hlen:(l.map Lx.b).length=l.length:=List.length_map ..
 exact policy27_c v l hl (Ps.step (l.map Lx.b) (l.map Lx.b).length) 0 h0 fun i' h1 h2=>row27_c v l hl (Ps.step (l.map Lx.b) (l.map Lx.b).length) i' h2 fun i'' h3 h4=>step29_c v l hl (l.map Lx.b).length i'' (by rw [hlen];omega) h4
theorem one27_c (v:Value) (l:List Lx.T) (q:Ps.R Po.T) (hq:Ps.P27 v l 89 q 0):Ps.P27 v l 88 q 0:=by
 intro F b hv
 have cp:=hq F b hv
 refine NCallX.fits (K:=fun r m=>∃ p j G pu u,q = .ok p j∧0≤j∧j<l.length∧F.le G∧Po.At G p pu u∧r.den=(AV.agg (Po.cs p pu u)).den∧MemFits m [hpB G,Ps.pB b v l.length j]) (Kp:=fun ch m=>∃ j x G k,q = .bad j∧l[j]?=some x∧ch=Ps.wrong x.at_∧F.le G∧MemFits m [hpB G,Ps.pB b v l.length k]) ?_ (fun r m' ⟨p,j,G,pu,u,h1,h2,h3,h4,h5,h6,h7⟩=>⟨_,_,h6.symm,h7,p,j,G,pu,u,h1,h2,h3,h4,h5,rfl,rfl⟩) (fun ch m' ⟨j,x,G,k,h1,h2,h3,h4,h5⟩=>⟨_,h5,j,x,G,k,h1,h2,h3,h4,rfl⟩)
 unfold Ps.pB at cp ⊢
 refine ncallx_of Tryz.func88 rfl (by decide) ?_
 repeat' first|(intro K Kp hK hP;(with_reducible refine gCX ?_);(refine cX [0,1] cp rfl rfl ?_ ?_;((rintro _ _ ⟨p,j,G,pu,u,h1,h2,h3,h4,h5,rfl,rfl⟩)<;>refine ⟨rfl,_,rfl,?_⟩);rotate_right;((rintro _ _ ⟨j,x,G,k,h1,h2,rfl,h4,rfl⟩)<;>refine ⟨rfl,?_⟩);all_goals (conv=>whnf)))|(refine sxZX ?_;(try clear hP hK Kp K);try clear hK K)|refine sxW ?_ ?_<;>intro _|(intro K Kp hK hP _;(conv=>whnf))|(intro K hK _;(conv=>whnf))
 ·exact ⟨j,x,G,k,h1,h2,rfl,h4,MemFits.pre 2 rfl⟩
 ·exact ⟨p,j,G,pu,u,h1,h2,h3,h4,h5,rfl,MemFits.pre 2 rfl⟩
theorem parse27_c (tx:List UInt8) (hs:tx.length≤4000) (L:List (Lx.B × List UInt8)) (hL:Lx.toks tx=some L) (hl:L.length≤500) (F:Heap) :
  NCall Tryz.prog 49 [.str tx] [hpB F] fun r m =>
   (∃ x G pu u,Ps.whole ((Lx.res tx L).map Lx.b) (Ps.rows ((Lx.res tx L).map Lx.b) (Ps.step ((Lx.res tx L).map Lx.b) ((Lx.res tx L).map Lx.b).length) 0) = .ok x 0∧F.le G∧Po.At G x pu u∧r = .tup [.agg (Po.cs x pu u),.int .i64 0,.int .i64 0]∧m=[hpB G]) ∨
   (∃ j y G,Ps.whole ((Lx.res tx L).map Lx.b) (Ps.rows ((Lx.res tx L).map Lx.b) (Ps.step ((Lx.res tx L).map Lx.b) ((Lx.res tx L).map Lx.b).length) 0) = .bad j∧(Lx.res tx L)[j]?=some y∧F.le G∧r = .tup [.agg [.int .i64 0,.int .i64 0,.int .i64 0,.int .i64 0,.raw (.slice none 0 0),.int .i64 0,.int .i64 0,.raw (.slice none 0 0)],.int .i64 y.at_,.int .i64 10]∧m=[hpB G]):=by
 have h0:0<(Lx.res tx L).length:=by simp [Lx.res]
 have cw:=whole27_c 88 tx hs L hL hl _ (fun v=>one27_c v _ _ (policy29_c v _ (Ps.good_res hl) h0)) F
 refine NCall.fits (K:=fun r m=>(∃ x G pu u,Ps.whole ((Lx.res tx L).map Lx.b) (Ps.rows ((Lx.res tx L).map Lx.b) (Ps.step ((Lx.res tx L).map Lx.b) ((Lx.res tx L).map Lx.b).length) 0) = .ok x 0∧F.le G∧Po.At G x pu u∧r.den=(AV.tup [.agg (Po.cs x pu u),.int .i64 0,.int .i64 0]).den∧MemFits m [hpB G]) ∨
   (∃ j y G,Ps.whole ((Lx.res tx L).map Lx.b) (Ps.rows ((Lx.res tx L).map Lx.b) (Ps.step ((Lx.res tx L).map Lx.b) ((Lx.res tx L).map Lx.b).length) 0) = .bad j∧(Lx.res tx L)[j]?=some y∧F.le G∧r.den=(AV.tup [.agg [.int .i64 0,.int .i64 0,.int .i64 0,.int .i64 0,.raw (.slice none 0 0),.int .i64 0,.int .i64 0,.raw (.slice none 0 0)],.int .i64 y.at_,.int .i64 10]).den∧MemFits m [hpB G])) ?_ fun r m' hq=>?_
 rotate_left
 ·rcases hq with ⟨x,G,pu,u,h1,h2,h3,h4,h5⟩ | ⟨j,y,G,h1,h2,h3,h4,h5⟩
  ·exact ⟨_,_,h4.symm,h5,.inl ⟨x,G,pu,u,h1,h2,h3,rfl,rfl⟩⟩
  ·exact ⟨_,_,h4.symm,h5,.inr ⟨j,y,G,h1,h2,h3,rfl,rfl⟩⟩
 generalize Ps.whole ((Lx.res tx L).map Lx.b) (Ps.rows ((Lx.res tx L).map Lx.b) (Ps.step ((Lx.res tx L).map Lx.b) ((Lx.res tx L).map Lx.b).length) 0)=q at *
 refine ncall_of Tryz.func49 rfl (by decide) ?_
 rcases q with ⟨x,i⟩ | j
 ·have cw1:NCall Tryz.prog 87 [.str tx,.fn 88 [] []] [hpB F] fun r m=>∃ G pu u,i=0∧F.le G∧Po.At G x pu u∧r = .tup [.agg (Po.cs x pu u),.int .i64 0,.int .i64 0]∧m=[hpB G]:=cw.mono fun r m h=>by
   rcases h with ⟨x',G,pu,u,h1,h2,h3,h4,h5⟩ | ⟨j,y,G,h1,_⟩
   ·cases h1
    exact ⟨G,pu,u,rfl,h2,h3,h4,h5⟩
   ·cases h1
  repeat' first|(intro K hK;(with_reducible refine gC ?_);(refine cN [0] cw1 ?_;rintro _ _ ⟨G,pu,u,h1,h2,h3,rfl,rfl⟩;refine cR ?_))|(refine sxZ ?_;try clear hK K)|refine sxW ?_ ?_<;>intro _|(intro K hK _;(conv=>whnf))
  all_goals exact .inl ⟨x,G,pu,u,by rw [h1],h2,h3,rfl,MemFits.pre 1 rfl⟩
 ·have cw1:NCall Tryz.prog 87 [.str tx,.fn 88 [] []] [hpB F] fun r m=>∃ y G,(Lx.res tx L)[j]?=some y∧F.le G∧r = .tup [.agg [.int .i64 0,.int .i64 0,.int .i64 0,.int .i64 0,.raw (.slice none 0 0),.int .i64 0,.int .i64 0,.raw (.slice none 0 0)],.int .i64 y.at_,.int .i64 10]∧m=[hpB G]:=cw.mono fun r m h=>by
   rcases h with ⟨x',G,pu,u,h1,_⟩ | ⟨j,y,G,h1,h2,h3,h4,h5⟩
   ·cases h1
   ·cases h1
    exact ⟨y,G,h2,h3,h4,h5⟩
  repeat' first|(intro K hK;(with_reducible refine gC ?_);(refine cN [0] cw1 ?_;rintro _ _ ⟨y,G,h2,h3,rfl,rfl⟩;refine cR ?_))|(refine sxZ ?_;try clear hK K)|refine sxW ?_ ?_<;>intro _|(intro K hK _;(conv=>whnf))
  all_goals exact .inr ⟨j,y,G,rfl,h2,h3,rfl,MemFits.pre 1 rfl⟩
end Go.Proofs.YtmehinfgdcmmjaaGreatDoor
namespace Go.Proofs.YtmehinfgdcmmjaaGreatDoor
open Go.Sx
set_option maxRecDepth 20000
set_option linter.unusedVariables false
namespace Lx
inductive O where
 | ok (l:List T)
 | bad (at_ e:Int)
def run (tx:List UInt8):Nat→Nat→List T→O
 | 0,_,_=>.bad 0 0
 | f+1,i,out=>if sk tx i=tx.length then .ok (out++[⟨4,0,[],tx.length⟩]) else match nextB (tx.drop (sk tx i)) with
  | none=>.bad (sk tx i:Nat) 10
  | some (b,n)=>if out.length=500 then .bad (sk tx i:Nat) 6 else run tx f (sk tx i+n) (out++[⟨b.k,b.n,b.s,(sk tx i:Nat)⟩])
def all (tx:List UInt8):O:=run tx (tx.length+1) 0 []
theorem run_more (tx:List UInt8):∀ (f g i:Nat) (out:List T),i≤tx.length→tx.length - i<f→tx.length - i<g→run tx f i out=run tx g i out
 | 0,g,i,out,_,h,_=>by omega
 | f+1,0,i,out,_,_,h=>by omega
 | f+1,g+1,i,out,hi,h1,h2=>by
  have hsk:=drop_sk tx i hi
  rw [run,run]
  by_cases hj:sk tx i=tx.length
  ·rw [if_pos hj,if_pos hj]
  ·rw [if_neg hj,if_neg hj]
   cases hn:nextB (tx.drop (sk tx i)) with
   | none=>rfl
   | some bn =>
    obtain ⟨b,n⟩:=bn
    have hp:=nextB_pos hn
    rw [List.length_drop] at hp
    dsimp only
    split
    ·rfl
    ·exact run_more tx f g _ _ (by omega) (by omega) (by omega)
theorem run_cases (tx:List UInt8):∀ (f i:Nat) (out:List T),St tx i out→tx.length - i<f →
  (∃ L,toks tx=some L∧L.length≤500∧run tx f i out = .ok (res tx L))∨(toks tx=none∧∃ a,run tx f i out = .bad a 10)∨(¬ good tx∧∃ a,run tx f i out = .bad a 6)
 | 0,i,out,_,h=>by omega
 | f+1,i,out,hst,h=>by
  have hsk:=drop_sk tx i hst.le
  rw [run]
  by_cases hj:sk tx i=tx.length
  ·rw [if_pos hj]
   obtain ⟨L,h1,h2,h3⟩:=hst.done hj
   exact .inl ⟨L,h1,h2,by rw [h3]⟩
  ·rw [if_neg hj]
   have hlt:sk tx i<tx.length:=by omega
   cases hn:nextB (tx.drop (sk tx i)) with
   | none =>
    obtain ⟨pre,h1,h2⟩:=hst.is
    rw [hsk.1] at hn
    have hne:skip (tx.drop i)≠[]:=by
     rw [← hsk.1];intro e2
     have:=congrArg List.length e2
     rw [List.length_drop] at this
     simp at this;omega
    rw [toks_none hne hn] at h2
    exact .inr (.inl ⟨h2,_,rfl⟩)
   | some bn =>
    obtain ⟨b,n⟩:=bn
    obtain ⟨g1,g2,g3,g4⟩:=hst.next hlt hn
    dsimp only
    by_cases hf:out.length=500
    ·rw [if_pos hf]
     exact .inr (.inr ⟨g4 hf,_,rfl⟩)
    ·rw [if_neg hf]
     have:=hst.few
     exact run_cases tx f _ _ (g3 (by omega)) (by omega)
theorem all_cases (tx:List UInt8) :
  (∃ L,toks tx=some L∧L.length≤500∧all tx = .ok (res tx L))∨(toks tx=none∧∃ a,all tx = .bad a 10)∨(¬ good tx∧∃ a,all tx = .bad a 6):=run_cases tx _ 0 [] (St.begin tx) (by omega)
end Lx
end Go.Proofs.YtmehinfgdcmmjaaGreatDoor
namespace Go.Proofs.YtmehinfgdcmmjaaGreatDoor
open Go.Sx
set_option maxRecDepth 20000
set_option linter.unusedSimpArgs false
set_option linter.unusedVariables false
set_option maxHeartbeats 4000000
set_option linter.unusedVariables false
def LexRun (F:Heap) (q:Lx.O) (r:AV) (m:List Blk):Prop :=
 (∃ l v,q = .ok l∧MemFits m [hpB F,⟨addrOf v,l.flatMap Lx.tokC,.row v 189 4 l.length⟩]∧r.den=(AV.tup [.sl 1 v l.length,.int .i64 0,.int .i64 0]).den) ∨
 (∃ at_ e:Int,q = .bad at_ e∧MemFits m [hpB F]∧r = .tup [.raw (.slice none 0 0),.int .i64 at_,.int .i64 e])
theorem lex_run (F:Heap) (tx:List UInt8) (hs:tx.length≤4000):NCall Tryz.prog 125 [.str tx] [hpB F] (LexRun F (Lx.all tx)):=by
 refine ncall_of Tryz.func125 rfl (by decide) ?_
 have h0:Lx.all tx=Lx.run tx (tx.length - 0+1) 0 []:=rfl
 generalize Lx.all tx=q at *
 repeat' first|(refine sxZ ?_;try clear hK K)|refine sxW ?_ ?_<;>intro _|(intro K hK _;(conv=>whnf))
 rename_i b0
 refine st_auto (α:=Nat × List Lx.T × Value) (fun x=>x.1≤tx.length∧x.2.1.length≤500∧q=Lx.run tx (tx.length - x.1+1) x.1 x.2.1) (fun x=>[.keep,.keep,.drop,.drop,.drop,.keep,.set (.sl 2 x.2.2 x.2.1.length),.drop,.drop,.keep,.keep,.keep,.keep,.keep,.keep,.drop,.drop,.drop,.drop,.drop,.drop,.drop,.drop,.drop,.drop,.drop,.drop,.drop,.drop,.drop,.drop,.drop,.drop,.drop,.drop,.drop,.drop,.drop,.drop,.drop,.drop,.drop,.drop,.drop,.drop,.drop,.drop,.drop,.drop,.drop,.drop,.drop]) (fun x=>[.keep,.set (LB ⟨b0,0,none⟩ tx x.1),.set ⟨addrOf x.2.2,x.2.1.flatMap Lx.tokC,.row x.2.2 189 4 x.2.1.length⟩]) (fun x=>tx.length - x.1) (0,[],.slice none 0 0) ⟨Nat.zero_le _,Nat.zero_le _,h0⟩ ?_ (MemFits.nilRow _ _ _) ?_
 ·exact fitsGo
 (intro ⟨i,out,v⟩ hst;intro K hK;(conv=>whnf);refine hK _ _ ?_;clear hK K)
 dsimp only at hst ⊢
 obtain ⟨hi,hfew,hq⟩:=hst
 obtain ⟨hd,hle,hle2⟩:=Lx.drop_sk tx i hi
 have hsk:=skip_c ⟨b0,0,none⟩ tx i hi (by omega)
 have hol:=Lx.tokC_len out
 rw [Lx.run] at hq
 generalize Lx.sk tx i=j at *
 by_cases hj:j=tx.length
 ·rw [if_pos hj] at hq
  subst hj
  repeat' first|(intro K hK;(with_reducible refine gC ?_);refine cS [1] hsk ?_)|(refine sxZ ?_;try clear hK K)|refine sxW ?_ ?_<;>intro _|(intro K hK _;(conv=>whnf))
  rename_i b9 v2
  all_goals
   refine .inl ⟨_,v2,hq,MemFits.pick [0,2] (by decide) ?_,?_⟩
   ·rw [List.flatMap_append,List.length_append]
    rfl
   ·simp only [AV.den,denL,slOf,List.length_append,List.length_cons,List.length_nil]
 ·rw [if_neg hj] at hq
  have hjl:j<tx.length:=by omega
  have hnx:=next_c ⟨b0,0,none⟩ tx j hjl (by omega)
  cases hn:Lx.nextB (tx.drop j) with
  | none =>
   rw [hn] at hq
   have hnx:=hnx.mono (K':=fun r m=>r = .tup [tokAV 0 0 [] j,.bool false]∧∃ q,MemFits m [LB ⟨b0,0,none⟩ tx q]) fun r m h=>h.2 hn
   have hnx:NCall Tryz.prog 171 [.ptr 0 ⟨b0,0,none⟩ 0] [LB ⟨b0,0,none⟩ tx j] fun r m=>r = .tup [tokAV 0 0 [] j,.bool false]∧∃ q,m=[LB ⟨b0,0,none⟩ tx q]:=hnx.fits fun r m h=>by
    obtain ⟨h1,q,h2⟩:=h
    exact ⟨r,_,rfl,h2,h1,q,rfl⟩
   unfold tokAV at hnx
   repeat' first|(intro K hK;(with_reducible refine gC ?_);first|refine cS [1] hsk ?_|(refine cN [1] hnx ?_;rintro _ _ ⟨rfl,q,rfl⟩;refine cR ?_))|(refine sxZ ?_;try clear hK K)|refine sxW ?_ ?_<;>intro _|(intro K hK _;(conv=>whnf))
   all_goals exact .inr ⟨_,_,hq,MemFits.pick [0] (by decide) rfl,rfl⟩
  | some bn =>
   obtain ⟨b,n⟩:=bn
   have hp:=Lx.nextB_pos hn
   rw [List.length_drop] at hp
   rw [hn] at hq
   dsimp only at hq
   have hnx:NCall Tryz.prog 171 [.ptr 0 ⟨b0,0,none⟩ 0] [LB ⟨b0,0,none⟩ tx j] fun r m=>r = .tup [tokAV b.k b.n b.s j,.bool true]∧m=[LB ⟨b0,0,none⟩ tx (j+n)]:=hnx.fits fun r m h=>by
    obtain ⟨h5,h6⟩:=h.1 b n hn
    exact ⟨r,_,rfl,h6,h5,rfl⟩
   unfold tokAV at hnx
   by_cases hf:out.length=500
   ·rw [if_pos hf] at hq
    repeat' first|(intro K hK;(with_reducible refine gC ?_);first|refine cS [1] hsk ?_|refine cS [1] hnx ?_)|(refine sxZ ?_;try clear hK K)|refine sxW ?_ ?_<;>intro _|(intro K hK _;(conv=>whnf))
    all_goals exact .inr ⟨_,_,hq,MemFits.pick [0] (by decide) rfl,rfl⟩
   ·rw [if_neg hf,Lx.run_more tx _ (tx.length - (j+n)+1) _ _ (by omega) (by omega) (by omega)] at hq
    repeat' first|(intro K hK;(with_reducible refine gC ?_);first|refine cS [1] hsk ?_|refine cS [1] hnx ?_)|(refine sxZ ?_;try clear hK K)|refine sxW ?_ ?_<;>intro _|(intro K hK _;(conv=>whnf))
    rename_i v2
    refine st_round (j+n,out++[⟨b.k,b.n,b.s,j⟩],v2) ⟨by dsimp only;omega,by dsimp only;simp;omega,hq⟩ (by dsimp only;omega) ?_ (MemFits.trans (MemFits.pre 3 rfl) (MemFits.eq ?_))
    ·exact fitsGo
    ·rw [List.flatMap_append,List.length_append]
     rfl
theorem lexall_c (F:Heap) (tx:List UInt8) (hs:tx.length≤4000):NCall Tryz.prog 125 [.str tx] [hpB F] fun r m =>
  (∃ l F' v,Lx.all tx = .ok l∧F.le F'∧m=[hpB F']∧r = .tup [.hs v l.length,.int .i64 0,.int .i64 0]∧RowF F' 4 (fun x vs=>vs=Lx.tokV x) v l) ∨
  (∃ at_ e:Int,Lx.all tx = .bad at_ e∧m=[hpB F]∧r = .tup [.hs (.slice none 0 0) 0,.int .i64 at_,.int .i64 e]):=by
 refine Go.Sx.NCall.know (lex_run F tx hs) fun r m' h ⟨w,hw⟩=>?_
 rcases h with ⟨l,v,hq,hm,hr⟩ | ⟨at_,e,hq,hm,hr⟩
 ·obtain ⟨hok,_,hsl⟩:=(hm w hw).1.row (List.mem_cons_of_mem _ (List.mem_singleton.2 rfl))
  refine ⟨.tup [.hs v l.length,.int .i64 0,.int .i64 0],_,?_,hm.trans (MemFits.freeze (m:=[])),.inl ⟨l,_,v,hq,addF.old,rfl,rfl,rowF_new hok (Lx.tokC_den _) (fun x _=>rfl)⟩⟩
  rw [hr];rfl
 ·exact ⟨.tup [.hs (.slice none 0 0) 0,.int .i64 at_,.int .i64 e],_,by rw [hr];rfl,hm,.inr ⟨at_,e,hq,rfl,rfl⟩⟩
end Go.Proofs.YtmehinfgdcmmjaaGreatDoor
namespace Go.Proofs.YtmehinfgdcmmjaaGreatDoor
open Go.Sx
set_option maxRecDepth 20000
set_option linter.unusedSimpArgs false
set_option linter.unusedVariables false
set_option maxHeartbeats 4000000
set_option linter.unusedVariables false
namespace Ps
def out {α:Type} (z:α) (q:List Lx.B→R α):Lx.O→α × Int × Int
 | .bad a e=>(z,a,e)
 | .ok l=>match whole (l.map Lx.b) (q (l.map Lx.b)) with
  | .ok x _=>(x,0,0)
  | .bad j=>(z,(l[j]?.getD ⟨4,0,[],0⟩).at_,10)
def zero27:Po.T:=.mk 0 none26 0 0 []
def q27 (l:List Lx.B):R Po.T:=rows l (step l l.length) 0
def out27 (tx:List UInt8):Po.T × Int × Int:=out zero27 q27 (Lx.all tx)
theorem nil26 (G:Heap):Pd.Row G (.slice none 0 0) []:=RowF.nil
theorem nil27 (G:Heap):Po.Row G (.slice none 0 0) []:=RowF.nil
end Ps
theorem whole27_bad (g:FuncId) (tx:List UInt8) (hs:tx.length≤4000) (a e:Int) (hb:Lx.all tx = .bad a e) (he:e≠0) (F:Heap) :
  NCall Tryz.prog 87 [.str tx,.fn g [] []] [hpB F] fun r m=>r = .tup [.agg [.int .i64 0,.int .i64 0,.int .i64 0,.int .i64 0,.raw (.slice none 0 0),.int .i64 0,.int .i64 0,.raw (.slice none 0 0)],.int .i64 a,.int .i64 e]∧m=[hpB F]:=by
 refine NCall.fits (K:=fun r m=>r.den=(AV.tup [.agg [.int .i64 0,.int .i64 0,.int .i64 0,.int .i64 0,.raw (.slice none 0 0),.int .i64 0,.int .i64 0,.raw (.slice none 0 0)],.int .i64 a,.int .i64 e]).den∧MemFits m [hpB F]) ?_ fun r m' hq=>⟨_,_,hq.1.symm,hq.2,rfl,rfl⟩
 have clex:NCall Tryz.prog 125 [.str tx] [hpB F] fun r m=>m=[hpB F]∧r = .tup [.hs (.slice none 0 0) 0,.int .i64 a,.int .i64 e]:=(lexall_c F tx hs).mono fun r m h=>by
  rcases h with ⟨l,F',v,h1,_⟩ | ⟨a',e',h1,h2,h3⟩
  ·rw [hb] at h1;cases h1
  ·rw [hb] at h1
   cases h1
   exact ⟨h2,h3⟩
 refine ncall_deferred Tryz.func87 rfl (by decide) (fun K hK=>?_)
 conv=>whnf
 refine hK _ ?_
 clear hK K
 refine ny_seq (ny_X ?_)
 repeat' first|(refine sxZX ?_;(try clear hP hK Kp K);try clear hK K)|refine sxW ?_ ?_<;>intro _|(intro K Kp hK hP _;(conv=>whnf))|(intro K hK _;(conv=>whnf))
 refine ny_seq (ny_X ?_)
 repeat' first|(intro K Kp hK hP;(with_reducible refine gCX ?_);(refine NCallX.of ?_;first|(refine cN [0] clex ?_;rintro _ _ ⟨rfl,rfl⟩;refine cR ?_)))|(refine sxZX ?_;(try clear hP hK Kp K);try clear hK K)|refine sxW ?_ ?_<;>intro _|(intro K Kp hK hP _;(conv=>whnf))|(intro K hK _;(conv=>whnf))
 refine ny_seq (ny_X ?_)
 repeat' first|((first|intro A B hA hB|intro K hK|skip);first|((with_reducible refine NIf.yes ?s ?_);(case s=>simp ;done);(conv=>whnf))|((with_reducible refine NIf.no ?s ?_);(case s=>simp ;done);(conv=>whnf)))|(refine sxOX ?_;(try clear hP hK Kp K);(try clear hK K);try clear hA hB A B)|refine sxW ?_ ?_<;>intro _|refine sxVX ?_ ?_|(intro K Kp hK hP _;(conv=>whnf))|(intro K hK _;(conv=>whnf))
 all_goals (refine nend_nil ?_;conv=>whnf)
 all_goals (repeat' first|(refine sxZX ?_;(try clear hP hK Kp K);try clear hK K)|refine sxW ?_ ?_<;>intro _|(intro K Kp hK hP _;(conv=>whnf))|(intro K hK _;(conv=>whnf)))
 all_goals exact ⟨rfl,MemFits.pre 1 rfl⟩
theorem parse27_bad (tx:List UInt8) (hs:tx.length≤4000) (a e:Int) (hb:Lx.all tx = .bad a e) (he:e≠0) (F:Heap) :
  NCall Tryz.prog 49 [.str tx] [hpB F] fun r m=>r = .tup [.agg [.int .i64 0,.int .i64 0,.int .i64 0,.int .i64 0,.raw (.slice none 0 0),.int .i64 0,.int .i64 0,.raw (.slice none 0 0)],.int .i64 a,.int .i64 e]∧m=[hpB F]:=by
 refine NCall.fits (K:=fun r m=>r.den=(AV.tup [.agg [.int .i64 0,.int .i64 0,.int .i64 0,.int .i64 0,.raw (.slice none 0 0),.int .i64 0,.int .i64 0,.raw (.slice none 0 0)],.int .i64 a,.int .i64 e]).den∧MemFits m [hpB F]) ?_ fun r m' hq=>⟨_,_,hq.1.symm,hq.2,rfl,rfl⟩
 have cw:=whole27_bad 88 tx hs a e hb he F
 refine ncall_of Tryz.func49 rfl (by decide) ?_
 repeat' first|(intro K hK;(with_reducible refine gC ?_);(refine cN [0] cw ?_;rintro _ _ ⟨rfl,rfl⟩;refine cR ?_))|(refine sxZ ?_;try clear hK K)|refine sxW ?_ ?_<;>intro _|(intro K hK _;(conv=>whnf))
 all_goals exact ⟨rfl,MemFits.pre 1 rfl⟩
theorem parse27_all (tx:List UInt8) (hs:tx.length≤4000) (F:Heap) :
  NCall Tryz.prog 49 [.str tx] [hpB F] fun r m=>∃ G pu u,F.le G∧Po.At G (Ps.out27 tx).1 pu u∧r = .tup [.agg (Po.cs (Ps.out27 tx).1 pu u),.int .i64 (Ps.out27 tx).2.1,.int .i64 (Ps.out27 tx).2.2]∧m=[hpB G]:=by
 have bad:∀ a e,Lx.all tx = .bad a e→e≠0→NCall Tryz.prog 49 [.str tx] [hpB F] fun r m=>∃ G pu u,F.le G∧Po.At G (Ps.out27 tx).1 pu u∧r = .tup [.agg (Po.cs (Ps.out27 tx).1 pu u),.int .i64 (Ps.out27 tx).2.1,.int .i64 (Ps.out27 tx).2.2]∧m=[hpB G]:=fun a e hb he=>by
  refine NCall.fits (parse27_bad tx hs a e hb he F) fun r m ⟨h1,h2⟩=>?_
  have ho:Ps.out27 tx=(Ps.zero27,a,e):=by unfold Ps.out27;rw [hb];rfl
  rw [ho,h1,h2]
  exact ⟨.tup [.agg (Po.cs Ps.zero27 (.slice none 0 0) (.slice none 0 0)),.int .i64 _,.int .i64 _],_,rfl,MemFits.eq rfl,F,_,_,F.le_refl,⟨Ps.nil26 _,Ps.nil27 _⟩,rfl,rfl⟩
 rcases Lx.all_cases tx with ⟨L,hL,hl,ha⟩ | ⟨_,a,hb⟩ | ⟨_,a,hb⟩
 ·refine NCall.fits (parse27_c tx hs L hL hl F) fun r m h=>?_
  have ho:Ps.out27 tx=Ps.out Ps.zero27 Ps.q27 (.ok (Lx.res tx L)):=by unfold Ps.out27;rw [ha]
  rcases h with ⟨x,G,pu,u,h1,h2,h3,h4,h5⟩ | ⟨j,y,G,h1,h2,h3,h4,h5⟩
  ·have ho:Ps.out27 tx=(x,0,0):=by
    rw [ho,Ps.out]
    unfold Ps.q27
    rw [h1]
   rw [ho,h4,h5]
   exact ⟨_,_,rfl,MemFits.eq rfl,G,pu,u,h2,h3,rfl,rfl⟩
  ·have ho:Ps.out27 tx=(Ps.zero27,y.at_,10):=by
    rw [ho,Ps.out]
    unfold Ps.q27
    rw [h1]
    dsimp only
    rw [h2]
    rfl
   rw [ho,h4,h5]
   exact ⟨.tup [.agg (Po.cs Ps.zero27 (.slice none 0 0) (.slice none 0 0)),.int .i64 _,.int .i64 _],_,rfl,MemFits.eq rfl,G,_,_,h3,⟨Ps.nil26 _,Ps.nil27 _⟩,rfl,rfl⟩
 ·exact bad a 10 hb (by decide)
 ·exact bad a 6 hb (by decide)
end Go.Proofs.YtmehinfgdcmmjaaGreatDoor
