import Derived.Test.YtijkmhmgigaieaaTc8
namespace Go.Proofs.Ytijkmhmgigaieaa
open Go.Sx Go.RowKit
set_option maxRecDepth 20000
set_option linter.unusedSimpArgs false
set_option linter.unusedVariables false
set_option maxHeartbeats 4000000
set_option linter.unusedVariables false
def aqM (F:Heap) (Bs:Nat) (u:Value) (pre:List Int):List Blk :=
  [hpB F,⟨⟨Bs,0,none⟩,[.sl 2 u pre.length],.var 30⟩,⟨addrOf u,Srt.av pre,.row u 3 1 pre.length⟩]
def aqMM (F:Heap) (sl:List AV) (pre:List Int) (m:List Blk):Prop :=
  ∃ Bs u,sl[2]?=some (.ptr 1 ⟨Bs,0,none⟩ 0)∧m=aqM F Bs u pre
theorem aq_inj {i j a b:Nat} (h:some (AV.ptr i ⟨a,0,none⟩ 0)=some (AV.ptr j ⟨b,0,none⟩ 0)):a=b:=by
  injection h with h
  injection h with _ h _
  injection h
theorem aqM_plain {F:Heap} {Bs Bs':Nat} {u u':Value} {s s':List Int}:∀ k∈aqM F Bs u s,plainB (aqM F Bs' u' s') k:=by
  intro k hk
  simp only [aqM,List.mem_cons,List.not_mem_nil,or_false] at hk
  rcases hk with rfl | rfl | rfl
  · exact List.mem_cons_self ..
  · trivial
  · trivial
theorem appendseq41_c (F:Heap) (v:Value) (l:List Int) (hv:Tc.IRow F v l) (hn:l.length≤1000) (cap:Addr) (hc:F.c cap v) :
    NCall Try.prog 57 [.raw (.slice none 0 0),.fn 52 [] [.hp cap 0]] [hpB F] fun r m=>∃ (u:Value),r.den=slOf u∧MemFits m [hpB F,⟨addrOf u,Srt.av l,.row u 3 1 l.length⟩]:=by
  refine ncall_rangeP Try.func57 rfl (by decide) rfl rfl Tc.encV (fun x=>.int .i64 x) 5 (fun ys=>ys=l) l.length (aqMM F) (fun _=>rfl) ?_
  (repeat' (((intro _;skip)<;>(conv=>whnf))))
  rename_i Bs
  refine ⟨rfl,52,[.hp cap 0],aqM F Bs (.slice none 0 0) [],?_,?_,Go.Sx.enters_of Try.func52 rfl (by decide),
    values_gives F v l hv hn _ (List.mem_cons_self ..) cap hc,⟨Bs,.slice none 0 0,rfl,rfl⟩,aqM_plain,?_,?_,?_⟩
  · exact (MemFits.nilRow _ 3 1).trans (MemFits.congr rfl)
  · show (AV.fn _ [] [AV.hp _ 0]).den=_
    rfl
  · rintro pre x m2 ⟨Bs',u,e2,rfl⟩
    clear e2
    unfold aqM
    (repeat' (first|(with_reducible (refine hK _ _ ?_;clear hK K))|((with_reducible refine z25 ?_);intro K hK;(conv=>whnf))|(with_reducible first|refine z0 ?_|refine z4 ?_|refine z1 ?_)))
    exact ⟨rfl,rfl,rfl⟩
  · rintro pre x m2 hlt ⟨Bs',u,e2,rfl⟩
    obtain rfl:=aq_inj (show some (AV.ptr 1 ⟨Bs,0,none⟩ 0)=some (AV.ptr 1 ⟨Bs',0,none⟩ 0) from e2)
    have hmm:∀ u',aqMM F _ (pre++[x]) (aqM F Bs u' (pre++[x])):=fun u'=>⟨Bs,u',e2,rfl⟩
    clear e2
    have hfit:∀ u' m3,MemFits m3 (aqM F Bs u' (pre++[x]))→∃ m4,MemFits m3 m4∧aqMM F _ (pre++[x]) m4∧∀ k∈m4,plainB (aqM F Bs (.slice none 0 0) []) k :=
      fun u' m3 h=>⟨_,h,hmm u',aqM_plain⟩
    clear hmm
    have hnx:=Srt.av_append pre [x]
    have hal:=Srt.av_len pre
    have hl2:(pre++[x]).length=pre.length+1:=by simp
    unfold aqM at hfit ⊢
    rw [hnx,hl2] at hfit
    generalize Srt.av pre=ps at *
    (repeat' (first|(with_reducible (refine hK _ _ ?_;clear hK K))|((with_reducible refine z25 ?_);intro K hK;(conv=>whnf))|(with_reducible refine z0 ?_)|(((with_reducible refine NH.mk ?s ?_);case s=>(and_intros<;>first|with_reducible rfl|((with_reducible refine gOnes ?_);rfl)|((with_reducible refine gLen ?_);rfl)|omega))<;>(conv=>whnf))|(with_reducible first|refine z4 ?_|refine z5 ?_|refine z1 ?_|refine z9 ?_)|((intro _;skip)<;>(conv=>whnf))))
    all_goals
      rename_i v2
      refine ⟨rfl,hfit v2 _ (MemFits.pre 3 ?_)⟩
      rfl
  · rintro xs m2 hxs ⟨Bs',u,e2,rfl⟩
    obtain rfl:=aq_inj (show some (AV.ptr 1 ⟨Bs,0,none⟩ 0)=some (AV.ptr 1 ⟨Bs',0,none⟩ 0) from e2)
    clear e2
    subst hxs
    unfold aqM
    (repeat' (first|(with_reducible (refine hK _ _ ?_;clear hK K))|((with_reducible refine z25 ?_);intro K hK;(conv=>whnf))|(with_reducible refine z0 ?_)|(((with_reducible refine NH.mk ?s ?_);case s=>(and_intros<;>with_reducible rfl))<;>(conv=>whnf))|(with_reducible first|refine z3 ?_|refine z4 ?_|refine z8 ?_|refine z1 ?_|refine z2 ?_)))
    all_goals exact ⟨u,rfl,MemFits.pick [0,2] (by decide) rfl⟩
end Go.Proofs.Ytijkmhmgigaieaa
