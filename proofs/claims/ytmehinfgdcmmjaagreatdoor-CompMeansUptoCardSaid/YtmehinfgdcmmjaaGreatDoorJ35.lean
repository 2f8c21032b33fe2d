import Derived.Test.YtmehinfgdcmmjaaGreatDoorJ34
import Derived.Test.YtmehinfgdcmmjaaGreatDoorJ1
import Derived.Lib.Join
import Derived.Lib.ItoaLen
import Derived.Test.YtmehinfgdcmmjaaGreatDoorJ2
import Derived.Test.YtmehinfgdcmmjaaGreatDoorJ31
namespace Go.Sx
theorem NCallD.fits {P:Program} {g:FuncId} {args:List AV} {m:List Blk} {u:FrameMode} {K K':FrameMode→List Blk→Prop} (h:NCallD P g args m u K) (hk:∀ u' m',K u' m'→∃ m'',MemFits m' m''∧K' u' m''):NCallD P g args m u K':=by
 unfold NCallD at h ⊢
 refine ⟨h.1,fun w hm=>(h.2 w hm).mono fun e u' w' hq=>?_⟩
 obtain ⟨m',h1,rfl,h3,h4,h5⟩:=hq
 obtain ⟨m'',h6,h7⟩:=hk u' m' h1
 exact ⟨m'',h7,rfl,(h6 w' h3).1,h4,fun b hb=>h5.1 b ((h6 w' h3).2.1 b hb),fun b hb=>h5.2 b ((h6 w' h3).2.2 b hb)⟩
end Go.Sx
namespace Go.Proofs.YtmehinfgdcmmjaaGreatDoor
open Go.Sx
set_option maxRecDepth 20000
set_option linter.unusedSimpArgs false
set_option linter.unusedVariables false
set_option maxHeartbeats 4000000
set_option linter.unusedVariables false
theorem Ps.good_res {tx:List UInt8} {L:List (Lx.B × List UInt8)} (hl:L.length≤500):Ps.Good (Lx.res tx L):=by
 have hlen:(Lx.res tx L).length=L.length+1:=by simp [Lx.res]
 refine ⟨by omega,fun i x hx hk=>?_⟩
 have hi:=(List.getElem?_eq_some_iff.1 hx).1
 rcases Nat.lt_or_ge i L.length with h | h
 ·omega
 ·obtain rfl:i=L.length:=by omega
  unfold Lx.res at hx
  rw [List.getElem?_append_right (by simp),List.length_map,Nat.sub_self] at hx
  injection hx with hx
  subst hx
  exact (hk rfl).elim
theorem whole27_c (g:FuncId) (tx:List UInt8) (hs:tx.length≤4000) (L:List (Lx.B × List UInt8)) (hL:Lx.toks tx=some L) (hl:L.length≤500) (q:Ps.R Po.T) (hg:∀ v,Ps.P27 v (Lx.res tx L) g q 0) (F:Heap) :
  NCall Tryz.prog 87 [.str tx,.fn g [] []] [hpB F] fun r m =>
   (∃ x G pu u,Ps.whole ((Lx.res tx L).map Lx.b) q = .ok x 0∧F.le G∧Po.At G x pu u∧r = .tup [.agg (Po.cs x pu u),.int .i64 0,.int .i64 0]∧m=[hpB G]) ∨
   (∃ j y G,Ps.whole ((Lx.res tx L).map Lx.b) q = .bad j∧(Lx.res tx L)[j]?=some y∧F.le G∧r = .tup [.agg [.int .i64 0,.int .i64 0,.int .i64 0,.int .i64 0,.raw (.slice none 0 0),.int .i64 0,.int .i64 0,.raw (.slice none 0 0)],.int .i64 y.at_,.int .i64 10]∧m=[hpB G]):=by
 refine NCall.fits (K:=fun r m=>(∃ x G pu u,Ps.whole ((Lx.res tx L).map Lx.b) q = .ok x 0∧F.le G∧Po.At G x pu u∧r.den=(AV.tup [.agg (Po.cs x pu u),.int .i64 0,.int .i64 0]).den∧MemFits m [hpB G]) ∨
   (∃ j y G,Ps.whole ((Lx.res tx L).map Lx.b) q = .bad j∧(Lx.res tx L)[j]?=some y∧F.le G∧r.den=(AV.tup [.agg [.int .i64 0,.int .i64 0,.int .i64 0,.int .i64 0,.raw (.slice none 0 0),.int .i64 0,.int .i64 0,.raw (.slice none 0 0)],.int .i64 y.at_,.int .i64 10]).den∧MemFits m [hpB G])) ?_ fun r m' hq=>?_
 rotate_left
 ·rcases hq with ⟨x,G,pu,u,h1,h2,h3,h4,h5⟩ | ⟨j,y,G,h1,h2,h3,h4,h5⟩
  ·exact ⟨_,_,h4.symm,h5,.inl ⟨x,G,pu,u,h1,h2,h3,rfl,rfl⟩⟩
  ·exact ⟨_,_,h4.symm,h5,.inr ⟨j,y,G,h1,h2,h3,rfl,rfl⟩⟩
 have hgood:=Ps.good_res (tx:=tx) hl
 have hlen:(Lx.res tx L).length=L.length+1:=by simp [Lx.res]
 have clex:=lex_good F tx hs L hL hl
 generalize Lx.res tx L=l at *
 have hn:=hgood.few
 refine ncall_deferred Tryz.func87 rfl (by decide) (fun K hK=>?_)
 conv=>whnf
 refine hK _ ?_
 clear hK K
 refine ny_seq (ny_X ?_)
 repeat' first|(refine sxZX ?_;(try clear hP hK Kp K);try clear hK K)|refine sxW ?_ ?_<;>intro _|(intro K Kp hK hP _;(conv=>whnf))|(intro K hK _;(conv=>whnf))
 refine ny_seq (ny_X ?_)
 repeat' first|(intro K Kp hK hP;(with_reducible refine gCX ?_);(refine NCallX.of ?_;first|(refine cN [0] clex ?_;rintro _ _ ⟨F',v,hle,rfl,rfl,hrow⟩;refine cR ?_)))|(refine sxZX ?_;(try clear hP hK Kp K);try clear hK K)|refine sxW ?_ ?_<;>intro _|(intro K Kp hK hP _;(conv=>whnf))|(intro K hK _;(conv=>whnf))
 have hv2:Ps.Toks F' v l:=hrow
 have hok:=hv2.ok
 refine ny_seq (ny_X ?_)
 repeat' first|((first|intro A B hA hB|intro K hK|skip);first|((with_reducible refine NIf.yes ?s ?_);(case s=>simp ;done);(conv=>whnf))|((with_reducible refine NIf.no ?s ?_);(case s=>simp ;done);(conv=>whnf)))|(refine sxZX ?_;(try clear hP hK Kp K);(try clear hK K);try clear hA hB A B)|refine sxW ?_ ?_<;>intro _|(intro K Kp hK hP _;(conv=>whnf))|(intro K hK _;(conv=>whnf))
 refine ny_seq (ny_defer ?_)
 conv=>whnf
 refine ny_X ?_
 have cg:=fun b=>hg v F' b hv2
 have cn:=fun G (h:F'.le G) b j (hj:j<l.length)=>now29_c G v l (Ps.Toks.mono h hv2) hn b (List.getElem?_eq_getElem hj)
 have cf:=fun G (h:F'.le G) b j (hj:j<l.length)=>fail29_c G v l (Ps.Toks.mono h hv2) hn b (List.getElem?_eq_getElem hj)
 unfold Ps.pB at cg cn cf
 have cp:=fun b4 b5 b6 x0 x1 x2 x3 x4 x5 x6 x7 a e at_=>(closure27_p b4 b5 b6 x0 x1 x2 x3 x4 x5 x6 x7 a e at_).fits (K':=fun u' m'=>settle u' = .returning∧m'=[⟨⟨b4,0,none⟩,[.int .i64 0,.int .i64 0,.int .i64 0,.int .i64 0,.raw (.slice none 0 0),.int .i64 0,.int .i64 0,.raw (.slice none 0 0)],.var 42⟩,⟨⟨b5,0,none⟩,[.int .i64 at_],.var 3⟩,⟨⟨b6,0,none⟩,[.int .i64 10],.var 34⟩]) fun u' m' ⟨h1,m2,h2⟩=>⟨_,by rw [h2];exact MemFits.pre 3 rfl,h1,rfl⟩
 repeat' first|(intro K Kp hK hP;(with_reducible refine gCX ?_);first|(refine cX [0,4] (cg _) rfl rfl ?_ ?_;((rintro _ _ ⟨x,j,G,pu,u,h1,h2,h3,h4,h5,rfl,rfl⟩)<;>refine ⟨rfl,_,rfl,?_⟩);rotate_right;((rintro _ _ ⟨j,y,G,k,h1,h2,rfl,h4,rfl⟩)<;>refine ⟨rfl,?_⟩);all_goals (conv=>whnf))|(refine cX [0,4] (cf G h4 _ j h3) rfl rfl ?_ ?_;((rintro _ _ ⟨⟩)<;>refine ⟨rfl,_,rfl,?_⟩);rotate_right;((rintro _ _ ⟨rfl,rfl⟩)<;>refine ⟨rfl,?_⟩);all_goals (conv=>whnf))|(refine NCallX.of ?_;first|refine cS [0,4] (cn G h4 _ j h3) ?_))|(refine sxZX ?_;(try clear hP hK Kp K);try clear hK K)|refine sxW ?_ ?_<;>intro _|(intro K Kp hK hP _;(conv=>whnf))|(intro K hK _;(conv=>whnf))
 ·rename_i b4 b5 b6 b7
  refine nend_one (by intro h;cases h) rfl (NCallD.subw [1,2,3] [.ptr 0 ⟨b4,0,none⟩ 0,.ptr 1 ⟨b5,0,none⟩ 0,.ptr 2 ⟨b6,0,none⟩ 0] _ (cp b4 b5 b6 _ _ _ _ _ _ _ _ _ _ _) rfl (by decide) rfl fun u' bs g=>?_)
  obtain ⟨g1,rfl⟩:=g
  refine ⟨Nat.le_of_ble_eq_true rfl,?_⟩
  conv=>whnf
  refine ⟨g1,?_⟩
  conv=>whnf
  repeat' first|(refine sxZX ?_;(try clear hP hK Kp K);try clear hK K)|refine sxW ?_ ?_<;>intro _|(intro K Kp hK hP _;(conv=>whnf))|(intro K hK _;(conv=>whnf))
  all_goals exact .inr ⟨j,y,G,by rw [h1];rfl,h2,hle.trans h4,rfl,MemFits.pre 1 rfl⟩
 ·rename_i b4 b5 b6 b7 hk
  refine nend_one (by intro h;cases h) rfl (NCallD.subw [1,2,3] [.ptr 0 ⟨b4,0,none⟩ 0,.ptr 1 ⟨b5,0,none⟩ 0,.ptr 2 ⟨b6,0,none⟩ 0] _ (closure27_r b4 b5 b6 _ _ _ _ _ _ _ _ _ _) rfl (by decide) rfl fun u' bs g=>?_)
  obtain ⟨g1,rfl⟩:=g
  refine ⟨Nat.le_of_ble_eq_true rfl,?_⟩
  conv=>whnf
  refine ⟨g1,?_⟩
  conv=>whnf
  repeat' first|(refine sxZX ?_;(try clear hP hK Kp K);try clear hK K)|refine sxW ?_ ?_<;>intro _|(intro K Kp hK hP _;(conv=>whnf))|(intro K hK _;(conv=>whnf))
  all_goals exact .inl ⟨x,G,pu,u,by rw [h1];exact if_pos (by rw [Ps.tk_b (List.getElem?_eq_getElem h3)];exact hk),hle.trans h4,h5,rfl,MemFits.pre 1 rfl⟩
 ·rename_i b4 b5 b6 b7 hk
  refine nend_one (by intro h;cases h) rfl (NCallD.subw [1,2,3] [.ptr 0 ⟨b4,0,none⟩ 0,.ptr 1 ⟨b5,0,none⟩ 0,.ptr 2 ⟨b6,0,none⟩ 0] _ (cp b4 b5 b6 _ _ _ _ _ _ _ _ _ _ _) rfl (by decide) rfl fun u' bs g=>?_)
  obtain ⟨g1,rfl⟩:=g
  refine ⟨Nat.le_of_ble_eq_true rfl,?_⟩
  conv=>whnf
  refine ⟨g1,?_⟩
  conv=>whnf
  repeat' first|(refine sxZX ?_;(try clear hP hK Kp K);try clear hK K)|refine sxW ?_ ?_<;>intro _|(intro K Kp hK hP _;(conv=>whnf))|(intro K hK _;(conv=>whnf))
  all_goals exact .inr ⟨j,_,G,by rw [h1];exact if_neg (by rw [Ps.tk_b (List.getElem?_eq_getElem h3)];exact hk),List.getElem?_eq_getElem h3,hle.trans h4,rfl,MemFits.pre 1 rfl⟩
end Go.Proofs.YtmehinfgdcmmjaaGreatDoor
namespace Go.Proofs.YtmehinfgdcmmjaaGreatDoor
open Go.Sx
set_option maxRecDepth 20000
set_option linter.unusedVariables false
namespace Pd
end Pd
end Go.Proofs.YtmehinfgdcmmjaaGreatDoor
namespace Go.Proofs.YtmehinfgdcmmjaaGreatDoor
open Go.Sx
set_option maxRecDepth 20000
set_option linter.unusedVariables false
namespace Po
end Po
end Go.Proofs.YtmehinfgdcmmjaaGreatDoor
namespace Go.Proofs.YtmehinfgdcmmjaaGreatDoor
open Go.Sx
set_option maxRecDepth 20000
set_option linter.unusedVariables false
namespace Ps
open Lx (B toks nextB skip isL isD isS isSp)
def bs (t:List UInt8):Option (List B):=(toks t).map (List.map Prod.fst)
theorem bs_skip {t y:List UInt8} (h:skip t=skip y):bs t=bs y:=by unfold bs;rw [Lx.toks_skip h]
theorem skip_sp (u:List UInt8):skip (32::u)=skip u:=by
 have e:(32::u).dropWhile isSp=u.dropWhile isSp:=List.dropWhile_cons_of_pos (by decide)
 cases hu:u.dropWhile isSp with
 | nil=>rw [Lx.skip_nil (e.trans hu),Lx.skip_nil hu]
 | cons c r=>rw [Lx.skip_cons (e.trans hu),Lx.skip_cons hu]
theorem bs_sp (u:List UInt8):bs (32::u)=bs u:=bs_skip (skip_sp u)
theorem bs_nil:bs []=some []:=by unfold bs;rw [Lx.toks_nil (Lx.skip_nil rfl)];rfl
theorem bs_tok {c:UInt8} {r:List UInt8} {b:B} {n:Nat} (h1:isSp c=false) (h2:c≠35) (h:nextB (c::r)=some (b,n)):bs (c::r)=(bs ((c::r).drop n)).map (b::·):=by
 have hs:=Lx.skip_id (r:=r) h1 h2
 unfold bs
 rw [Lx.toks_cons (by rw [hs];exact List.cons_ne_nil _ _) (by rw [hs];exact h),hs]
 cases toks ((c::r).drop n)<;>rfl
def free (y:List UInt8):Prop:=∀ c r,y=c::r→isL c=false∧isD c=false
theorem free_nil:free []:=fun c r h=>by cases h
theorem free_sp (y:List UInt8):free (32::y):=fun c r h=>by injection h with h _;rw [← h];decide
theorem letter_sp {c:UInt8} (h:isL c=true):isSp c=false∧c≠35:=by
 unfold isL at h
 simp only [Bool.and_eq_true,decide_eq_true_eq] at h
 constructor
 ·unfold isSp
  cases hc:(c == 32||c == 9||c == 10) with
  | false=>rfl
  | true =>
   simp only [Bool.or_eq_true,beq_iff_eq] at hc
   rcases hc with (rfl | rfl) | rfl<;>revert h<;>decide
 ·rintro rfl
  revert h;decide
theorem digit_sp {c:UInt8} (h:isD c=true):isSp c=false∧c≠35:=by
 unfold isD at h
 simp only [Bool.and_eq_true,decide_eq_true_eq] at h
 constructor
 ·unfold isSp
  cases hc:(c == 32||c == 9||c == 10) with
  | false=>rfl
  | true =>
   simp only [Bool.or_eq_true,beq_iff_eq] at hc
   rcases hc with (rfl | rfl) | rfl<;>revert h<;>decide
 ·rintro rfl
  revert h;decide
theorem digit_letter {c:UInt8} (h:isD c=true):isL c=false:=by
 unfold isD at h
 unfold isL
 simp only [Bool.and_eq_true,decide_eq_true_eq] at h
 rw [decide_eq_false (by omega),Bool.false_and]
theorem bs_word {w y:List UInt8} (hw:∀ c∈w,isL c=true) (hne:w≠[]) (hy:free y):bs (w++y)=(bs y).map (⟨1,0,w⟩::·):=by
 obtain ⟨c,r,rfl⟩:=List.exists_cons_of_ne_nil hne
 have hc:=hw c (by simp)
 obtain ⟨h1,h2⟩:=letter_sp hc
 have ht:=Lx.tw_ext (p:=isL) (a:=c::r) (r:=y) hw fun c t e=>(hy c t e).1
 have hn:nextB (c::(r++y))=some (⟨1,0,c::r⟩,(c::r).length):=by
  rw [Lx.nextB_eq,if_pos hc]
  have:=ht.1
  rw [List.cons_append] at this
  rw [this]
 rw [List.cons_append,bs_tok h1 h2 hn,← List.cons_append,List.drop_left]
theorem bs_num {v:Int} {y:List UInt8} (h0:0≤v) (h9:v≤255) (hy:free y):bs (Lib.itoa v++y)=(bs y).map (⟨2,v,[]⟩::·):=by
 obtain ⟨n,rfl⟩:=Int.eq_ofNat_of_zero_le h0
 have hall:∀ n:Nat,n<256→(∀ c∈Lib.itoa (n:Int),isD c=true)∧Lib.itoa (n:Int)≠[]∧¬ (3<(Lib.itoa (n:Int)).length∨(1<(Lib.itoa (n:Int)).length∧(Lib.itoa (n:Int)).head?=some 48))∧Lx.num (Lib.itoa (n:Int))=n:=by decide +kernel
 obtain ⟨hd,hne,hok,hnum⟩:=hall n (by omega)
 have hw:∀ w:List UInt8,(∀ c∈w,isD c=true)→w≠[]→¬ (3<w.length∨(1<w.length∧w.head?=some 48))→Lx.num w=n→bs (w++y)=(bs y).map (⟨2,(n:Int),[]⟩::·):=fun w hd hne hok hnum=>by
  obtain ⟨c,r,rfl⟩:=List.exists_cons_of_ne_nil hne
  have hc:=hd c (by simp)
  obtain ⟨h1,h2⟩:=digit_sp hc
  have ht:=(Lx.tw_ext (p:=isD) (a:=c::r) (r:=y) hd fun c t e=>(hy c t e).2).1
  rw [List.cons_append] at ht
  have hl:=digit_letter hc
  have hn:nextB (c::(r++y))=some (⟨2,(n:Int),[]⟩,(c::r).length):=by
   rw [Lx.nextB_eq,if_neg (by rw [hl];decide),if_pos hc,ht,if_neg (fun h=>hok (by simpa using h)),hnum]
  rw [List.cons_append,bs_tok h1 h2 hn,← List.cons_append,List.drop_left]
 exact hw _ hd hne hok hnum
theorem bs_sign {c:UInt8} (y:List UInt8) (h:isS c=true):bs (c::y)=(bs y).map (⟨3,0,[c]⟩::·):=by
 have hc:c=40∨c=41∨c=59∨c=124∨c=61:=by
  unfold isS at h
  simpa [or_assoc] using h
 have hn:nextB (c::y)=some (⟨3,0,[c]⟩,1):=by
  rw [Lx.nextB_eq,if_neg (by rcases hc with rfl | rfl | rfl | rfl | rfl<;>decide),if_neg (by rcases hc with rfl | rfl | rfl | rfl | rfl<;>decide),if_neg (fun e=>by rw [e.1] at h;revert h;decide),if_pos h]
 rw [bs_tok (by rcases hc with rfl | rfl | rfl | rfl | rfl<;>decide) (by rcases hc with rfl | rfl | rfl | rfl | rfl<;>decide) hn]
 rfl
theorem bs_set (y:List UInt8):bs (58::61::y)=(bs y).map (⟨3,0,[58,61]⟩::·):=by
 have hn:nextB (58::61::y)=some (⟨3,0,[58,61]⟩,2):=by
  rw [Lx.nextB_eq,if_neg (by decide),if_neg (by decide),if_pos ⟨rfl,rfl⟩]
 rw [bs_tok (by decide) (by decide) hn]
 rfl
end Ps
end Go.Proofs.YtmehinfgdcmmjaaGreatDoor
