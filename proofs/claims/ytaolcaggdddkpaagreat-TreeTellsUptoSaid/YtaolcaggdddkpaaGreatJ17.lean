import Derived.Test.YtaolcaggdddkpaaGreatJ9
import Derived.Test.YtaolcaggdddkpaaGreatJ2
import Derived.Test.YtaolcaggdddkpaaGreatJ6
import Derived.Test.YtaolcaggdddkpaaGreatJ16
namespace Go.Proofs.YtaolcaggdddkpaaGreat
open Go.Sx
set_option maxRecDepth 20000
set_option linter.unusedSimpArgs false
set_option linter.unusedVariables false
set_option maxHeartbeats 4000000
abbrev Srt.Lays (F:Heap) (l:List Int) (r:AV) (m:List Blk):Prop:=∃ F' v,F.le F'∧Srt.Row F' v l∧r = .hs v l.length∧m=[hpB F']
theorem Values26_c (F:Heap) (p:Pd.T) (u:Value) (f:Int) (hf : -9223372036854775808≤f∧f≤9223372036854775807) (hs:Pd.size p≤2932031007402) (hu:Pd.Row F u p.l) :
  NCall Tryz.prog 87 [.agg (Pd.cs p u),.int .i64 f] [hpB F] fun r m=>Srt.Lays F (Pd.values f p) r m:=by
 have hln:=Pd.vals_len f p
 have c1:=values26_c f hf 3 rfl _ F p u [] (.slice none 0 0) (Nat.le_refl _) (by simpa using hs) hu
 have c0:NCall Tryz.prog 119 [.raw (.slice none 0 0),.agg (Pd.cs p u),.int .i64 f] [hpB F] _:=NCall.rowPre c1 rfl
 rw [List.nil_append] at c0
 clear c1
 have hv:=Pd.values_comp f p
 have hsl:=Srt.sort_len (Pd.vals f p)
 refine Go.Sx.NCall.know (K:=fun r m=>∃ v,r = .raw (Srt.cutTo v (Pd.values f p).length)∧MemFits m [hpB F,⟨addrOf v,Srt.av (Srt.comped (Srt.sort (Pd.vals f p))),.row v 3 1 (Pd.vals f p).length⟩]) ?_ fun r m' ⟨v,hr,hm⟩ ⟨w,hw⟩=>?_
 ·rw [← hv]
  have c2:=fun v=>sort_c v 3 (Pd.vals f p) (by omega)
  have c3:=fun v=>compact_c v 3 (Srt.sort (Pd.vals f p)) (by omega)
  rw [hsl] at c3
  generalize Srt.comped (Srt.sort (Pd.vals f p))=D2 at *
  generalize (Srt.comp (Srt.sort (Pd.vals f p))).length=n2 at *
  generalize Srt.av (Srt.sort (Pd.vals f p))=D1 at *
  generalize Srt.av (Pd.vals f p)=D0 at *
  generalize (Pd.vals f p).length=n0 at *
  have hok:=hu.ok
  clear hv hsl
  obtain ⟨k,a,v,l⟩:=p
  simp only [pd_cs,Pd.T.l] at *
  refine ncall_of Tryz.func87 rfl (by decide) ?_
  (repeat' (first|(with_reducible first|(refine hK _ _ ?_;clear hK K)|(refine hK _ ?_;clear hK K))|((with_reducible refine z25 ?_);intro K hK;(conv=>whnf))|(with_reducible refine z0 ?_)|((first|((with_reducible refine NH.mk ?s ?_);case s=>(and_intros<;>with_reducible rfl))|((with_reducible refine NCall.isF 119 ?_);refine NCall.subw [0] _ _ (c0) rfl (by decide) rfl ?_;rintro _ _ ⟨w',rfl,rfl⟩;refine ⟨Nat.le_of_ble_eq_true rfl,.sl 2 w' n0,rfl,?_⟩)|((with_reducible refine NCall.isF 56 ?_);refine NCall.subE [2] (c2 _) rfl (by decide) rfl rfl ?_)|((with_reducible refine NCall.isF 57 ?_);refine NCall.subE [2] (c3 _) rfl (by decide) rfl rfl ?_))<;>(conv=>whnf))|(with_reducible first|refine z3 ?_|refine z4 ?_|refine z8 ?_|refine z1 ?_|refine z2 ?_)|((with_reducible refine gR ?_);(refine z31 rfl ?_;intro K hK;(conv=>whnf)))|((with_reducible refine gF ?_);(refine z33 rfl ?_;intro K hK;(conv=>whnf)))|((intro _;skip)<;>(conv=>whnf))))
  all_goals exact ⟨_,rfl,MemFits.pick [0,2] (by decide) rfl⟩
 ·have hok:=((hm w hw).1.row (List.mem_cons_of_mem _ (List.mem_cons_self ..))).1
  rw [← hsl,← Srt.comped_len] at hok
  have hrow:=rowF_new (F:=F) (sz:=1) (enc:=Srt.V) hok (Srt.av_flat _) (fun x _=>rfl)
  obtain ⟨h1,h2⟩:=Srt.row_cut hrow
  rw [hv] at h1 h2
  exact ⟨_,_,by rw [hr];exact h2.symm,hm.trans (MemFits.freeze (m:=[])),_,_,addF.old,h1,rfl,rfl⟩
theorem asks26_c (F:Heap) (f w:Int) (hf : -9223372036854775808≤f∧f≤9223372036854775807):∀ (n:Nat) (p:Pd.T) (u:Value),Pd.size p≤n→Pd.size p≤4611686018427387904→Pd.Row F u p.l →
  NCall Tryz.prog 80 [.agg (Pd.cs p u),.int .i64 f,.int .i64 w] [hpB F] fun r m=>r = .bool (decide (w∈Pd.vals f p))∧m=[hpB F]
 | 0,p,u,hn,_,_=>absurd (Pd.size_pos p) (by omega)
 | n+1,⟨k,a,v,l⟩,u,hn,hs,hu=>by
  refine NCall.fits (K:=fun r m=>r = .bool (decide (w∈Pd.vals f (.mk k a v l)))∧MemFits m [hpB F]) ?_ fun r m' h=>⟨r,_,rfl,h.2,h.1,rfl⟩
  have hu:Pd.Row F u l:=hu
  have hok:=hu.ok
  have e2:Pd.size (.mk k a v l)=1+Pd.sizeL l:=by rw [Pd.size]
  have hll:=Pd.length_le l
  have ih:∀ x∈l,∀ A,Pd.Row F A x.l→NCall Tryz.prog 80 [.agg (Pd.cs x A),.int .i64 f,.int .i64 w] [hpB F] fun r m=>r = .bool (decide (w∈Pd.vals f x))∧m=[hpB F] :=
   fun x hx A hA=>asks26_c F f w hf n x A (by have:=Pd.size_lt (k:=k) (f:=a) (v:=v) hx;omega) (by have:=Pd.size_lt (k:=k) (f:=a) (v:=v) hx;omega) hA
  refine ncall_of Tryz.func80 rfl (by decide) ?_
  rw [pd_cs,Pd.vals]
  by_cases h1:k=3∧a=f∧v=w
  ·obtain ⟨rfl,rfl,rfl⟩:=h1
   (repeat' (first|(with_reducible first|(refine hK _ _ ?_;clear hK K)|(refine hA ?_;clear hA hB A B)|(refine hK _ ?_;clear hK K))|((with_reducible first|refine z25 ?_|refine z26 ?_);intro K hK;(conv=>whnf))|(with_reducible refine z0 ?_)|((first|((with_reducible refine NIf.yes ?s ?_);case s=>(simp ;done))|(with_reducible refine NN.a5 ?_)|((with_reducible refine NH.mk ?s ?_);case s=>(and_intros<;>with_reducible rfl)))<;>(conv=>whnf))|(with_reducible first|refine z3 ?_|refine z4 ?_|refine z8 ?_)|((with_reducible refine z29 ?_);intro A B hA hB;(conv=>whnf))|(with_reducible first|refine z1 ?_|refine z2 ?_|refine z12 ?_)|((with_reducible refine gR ?_);(refine z31 rfl ?_;intro K hK;(conv=>whnf)))|((with_reducible refine gF ?_);(refine z33 rfl ?_;intro K hK;(conv=>whnf)))|((intro _;skip)<;>(conv=>whnf))))
   all_goals exact ⟨by simp,MemFits.pre 1 rfl⟩
  ·have e:decide (w∈(if k=3∧a=f then [v] else [])++Pd.valsL f l)=decide (w∈Pd.valsL f l):=by
    congr 1
    rw [List.mem_append]
    refine propext ⟨fun h=>h.resolve_left fun h=>?_,.inr⟩
    split at h
    ·rename_i hk
     exact h1 ⟨hk.1,hk.2,(List.mem_singleton.1 h).symm⟩
    ·simp at h
   rw [e]
   by_cases hk:k=3
   ·by_cases ha:a=f
    ·have hv:v≠w:=fun e=>h1 ⟨hk,ha,e⟩
     subst ha hk
     (repeat' (first|(with_reducible first|(refine hK _ _ ?_;clear hK K)|(refine hB ?_;clear hA hB A B)|(refine hK _ ?_;clear hK K))|((with_reducible first|refine z25 ?_|refine z26 ?_);intro K hK;(conv=>whnf))|(with_reducible refine z0 ?_)|((first|((with_reducible refine NIf.yes ?s ?_);case s=>(simp [hv];done))|((with_reducible refine NIf.no ?s ?_);case s=>(simp [hv];done))|(with_reducible refine NN.a5 ?_)|((with_reducible refine NH.mk ?s ?_);case s=>(and_intros<;>with_reducible rfl)))<;>(conv=>whnf))|(with_reducible first|refine z3 ?_|refine z4 ?_|refine z5 ?_|refine z6 ?_)|((with_reducible refine z29 ?_);intro A B hA hB;(conv=>whnf))|(with_reducible first|refine z1 ?_|refine z2 ?_)|((with_reducible refine gF ?_);(refine z33 rfl ?_;intro K hK;(conv=>whnf)))|((intro _;skip)<;>(conv=>whnf))))
     refine st_auto (α:=Nat) (fun i=>i≤l.length∧¬ w∈Pd.valsL a (l.take i)) (fun i=>[.keep,.keep,.keep,.keep,.keep,.keep,.set (.bool false),.set (.int .i64 i),.keep,.keep,.keep,.keep,.keep,.keep,.keep,.keep,.keep,.keep,.keep,.keep,.keep,.keep,.keep,.drop,.drop,.drop,.drop,.drop,.drop,.drop,.drop,.drop,.drop,.drop,.drop,.drop,.drop,.drop]) (fun _=>[]) (fun i=>l.length - i) 0 ⟨Nat.zero_le _,by simp [Pd.valsL]⟩ ?_ (MemFits.eq rfl) ?_
     ·repeat (first|exact FitsSl.nil|refine FitsSl.any ?_|refine FitsSl.cons (Fit1.int (by first | rfl | omega)) ?_|refine FitsSl.cons (Fit1.bool rfl) ?_|refine FitsSl.cons (Fit1.same (by intro h;cases h) (by with_reducible rfl)) ?_)
     (intro i ⟨hi,hno⟩;intro K hK;(conv=>whnf);refine hK _ _ ?_;clear hK K)
     by_cases hlt:i<l.length
     ·have hx:l[i]?=some l[i]:=List.getElem?_eq_getElem hlt
      obtain ⟨A,cap,hA,c0,c1,c2,c3⟩:=hu.get hx
      have hmem:=List.mem_of_getElem? hx
      have c:=ih _ hmem _ hA
      have hnx:=Pd.valsL_take a hlt
      have hyes:w∈Pd.vals a l[i]→w∈Pd.valsL a l:=fun hw=>by
       have e:=Pd.valsL_append a (l.take (i+1)) (l.drop (i+1))
       rw [List.take_append_drop,hnx] at e
       rw [e]
       exact List.mem_append_left _ (List.mem_append_right _ hw)
      have hnext:¬ w∈Pd.vals a l[i]→¬ w∈Pd.valsL a (l.take (i+1)):=fun h1 h2=>by
       rw [hnx] at h2
       rcases List.mem_append.1 h2 with h2 | h2
       ·exact hno h2
       ·exact h1 h2
      clear ih e hnx
      generalize l[i]=x at *
      by_cases hw:w∈Pd.vals a x
      ·rw [decide_eq_true hw] at c
       have hy:=hyes hw
       clear hyes hnext hw
       obtain ⟨xk,xf,xv,xl⟩:=x
       simp only [Pd.cs,Pd.T.k,Pd.T.f,Pd.T.v,Pd.T.l] at c c0 c1 c2 c3 hA
       (repeat' (first|(with_reducible first|(refine hK _ _ ?_;clear hK K)|(refine hA ?_;clear hA hB A B)|(refine hK _ ?_;clear hK K))|((with_reducible refine z25 ?_);intro K hK;(conv=>whnf))|(with_reducible refine z0 ?_)|((first|((with_reducible refine NIf.decY ?s ?_);case s=>omega)|((with_reducible refine NIf.yes ?s ?_);case s=>rfl)|(with_reducible first|refine NN.cast ?_|refine NN.a5 ?_|refine NN.keep ?_)|((with_reducible refine NH.mk ?s ?_);case s=>(and_intros<;>first|with_reducible rfl|omega))|((with_reducible refine NCall.isF 80 ?_);refine NCall.subE [0] (c) rfl (by decide) rfl rfl ?_)|(with_reducible refine NLd.of (by with_reducible assumption) ?_))<;>(conv=>whnf))|(with_reducible first|refine z3 ?_|refine z4 ?_|refine z5 ?_|refine z6 ?_|refine z8 ?_)|((with_reducible refine z29 ?_);intro A B hA hB;(conv=>whnf))|(with_reducible first|refine z1 ?_|refine z2 ?_|refine z12 ?_|refine z13 ?_|refine z20 ?_)|((with_reducible refine gR ?_);(refine z31 rfl ?_;intro K hK;(conv=>whnf)))))
       all_goals exact ⟨by rw [decide_eq_true hy],MemFits.pre 1 rfl⟩
      ·rw [decide_eq_false hw] at c
       have hy:=hnext hw
       clear hyes hnext hw
       obtain ⟨xk,xf,xv,xl⟩:=x
       simp only [Pd.cs,Pd.T.k,Pd.T.f,Pd.T.v,Pd.T.l] at c c0 c1 c2 c3 hA
       (repeat' (first|(with_reducible first|(refine hK _ _ ?_;clear hK K)|(refine hA ?_;clear hA hB A B)|(refine hB ?_;clear hA hB A B))|((with_reducible refine z25 ?_);intro K hK;(conv=>whnf))|(with_reducible refine z0 ?_)|((first|((with_reducible refine NV.i64 ?s ?_);case s=>omega)|((with_reducible refine NIf.decY ?s ?_);case s=>omega)|((with_reducible refine NIf.no ?s ?_);case s=>rfl)|(with_reducible first|refine NN.cast ?_|refine NN.a5 ?_|refine NN.keep ?_)|((with_reducible refine NH.mk ?s ?_);case s=>(and_intros<;>first|with_reducible rfl|omega))|((with_reducible refine NCall.isF 80 ?_);refine NCall.subE [0] (c) rfl (by decide) rfl rfl ?_)|(with_reducible refine NLd.of (by with_reducible assumption) ?_))<;>(conv=>whnf))|(with_reducible first|refine z3 ?_|refine z4 ?_|refine z5 ?_|refine z6 ?_)|((with_reducible refine z29 ?_);intro A B hA hB;(conv=>whnf))|(with_reducible first|refine z1 ?_|refine z2 ?_|refine z9 ?_)))
       refine st_round (i+1) ⟨hlt,hy⟩ (by omega) ?_ (MemFits.eq rfl)
       repeat (first|exact FitsSl.nil|refine FitsSl.any ?_|refine FitsSl.cons (Fit1.int (by first | rfl | omega)) ?_|refine FitsSl.cons (Fit1.bool rfl) ?_|refine FitsSl.cons (Fit1.same (by intro h;cases h) (by with_reducible rfl)) ?_)
     ·have hkl:i=l.length:=by omega
      subst hkl
      rw [List.take_length] at hno
      (repeat' (first|(with_reducible first|(refine hK _ _ ?_;clear hK K)|(refine hB ?_;clear hA hB A B)|(refine hK _ ?_;clear hK K))|((with_reducible refine z25 ?_);intro K hK;(conv=>whnf))|(with_reducible refine z0 ?_)|((first|((with_reducible refine NIf.decN ?s ?_);case s=>omega)|(with_reducible refine NN.a5 ?_)|((with_reducible refine NH.mk ?s ?_);case s=>(and_intros<;>first|with_reducible rfl|omega)))<;>(conv=>whnf))|(with_reducible first|refine z3 ?_|refine z4 ?_|refine z7 ?_|refine z8 ?_)|((with_reducible refine z29 ?_);intro A B hA hB;(conv=>whnf))|(with_reducible first|refine z1 ?_|refine z2 ?_|refine z10 ?_|refine z11 ?_|refine z19 ?_)|((with_reducible refine gR ?_);(refine z31 rfl ?_;intro K hK;(conv=>whnf)))))
      all_goals exact ⟨by rw [decide_eq_false hno],MemFits.pre 1 rfl⟩
    ·(repeat' (first|(with_reducible first|(refine hK _ _ ?_;clear hK K)|(refine hB ?_;clear hA hB A B)|(refine hK _ ?_;clear hK K))|((with_reducible first|refine z25 ?_|refine z26 ?_);intro K hK;(conv=>whnf))|(with_reducible refine z0 ?_)|((first|((with_reducible refine NIf.decY ?s ?_);case s=>assumption)|((with_reducible refine NIf.decN ?s ?_);case s=>assumption)|((with_reducible refine NIf.no ?s ?_);case s=>rfl)|(with_reducible refine NN.a5 ?_)|((with_reducible refine NH.mk ?s ?_);case s=>(and_intros<;>with_reducible rfl)))<;>(conv=>whnf))|(with_reducible first|refine z3 ?_|refine z4 ?_|refine z5 ?_|refine z6 ?_)|((with_reducible refine z29 ?_);intro A B hA hB;(conv=>whnf))|(with_reducible first|refine z1 ?_|refine z2 ?_)|((with_reducible refine gF ?_);(refine z33 rfl ?_;intro K hK;(conv=>whnf)))|((intro _;skip)<;>(conv=>whnf))))
     refine st_auto (α:=Nat) (fun i=>i≤l.length∧¬ w∈Pd.valsL f (l.take i)) (fun i=>[.keep,.keep,.keep,.keep,.keep,.keep,.set (.bool false),.set (.int .i64 i),.keep,.keep,.keep,.keep,.keep,.keep,.keep,.keep,.keep,.keep,.keep,.keep,.keep,.keep,.keep,.drop,.drop,.drop,.drop,.drop,.drop,.drop,.drop,.drop,.drop,.drop,.drop,.drop,.drop,.drop]) (fun _=>[]) (fun i=>l.length - i) 0 ⟨Nat.zero_le _,by simp [Pd.valsL]⟩ ?_ (MemFits.eq rfl) ?_
     ·repeat (first|exact FitsSl.nil|refine FitsSl.any ?_|refine FitsSl.cons (Fit1.int (by first | rfl | omega)) ?_|refine FitsSl.cons (Fit1.bool rfl) ?_|refine FitsSl.cons (Fit1.same (by intro h;cases h) (by with_reducible rfl)) ?_)
     (intro i ⟨hi,hno⟩;intro K hK;(conv=>whnf);refine hK _ _ ?_;clear hK K)
     by_cases hlt:i<l.length
     ·have hx:l[i]?=some l[i]:=List.getElem?_eq_getElem hlt
      obtain ⟨A,cap,hA,c0,c1,c2,c3⟩:=hu.get hx
      have hmem:=List.mem_of_getElem? hx
      have c:=ih _ hmem _ hA
      have hnx:=Pd.valsL_take f hlt
      have hyes:w∈Pd.vals f l[i]→w∈Pd.valsL f l:=fun hw=>by
       have e:=Pd.valsL_append f (l.take (i+1)) (l.drop (i+1))
       rw [List.take_append_drop,hnx] at e
       rw [e]
       exact List.mem_append_left _ (List.mem_append_right _ hw)
      have hnext:¬ w∈Pd.vals f l[i]→¬ w∈Pd.valsL f (l.take (i+1)):=fun h1 h2=>by
       rw [hnx] at h2
       rcases List.mem_append.1 h2 with h2 | h2
       ·exact hno h2
       ·exact h1 h2
      clear ih e hnx
      generalize l[i]=x at *
      by_cases hw:w∈Pd.vals f x
      ·rw [decide_eq_true hw] at c
       have hy:=hyes hw
       clear hyes hnext hw
       obtain ⟨xk,xf,xv,xl⟩:=x
       simp only [Pd.cs,Pd.T.k,Pd.T.f,Pd.T.v,Pd.T.l] at c c0 c1 c2 c3 hA
       (repeat' (first|(with_reducible first|(refine hK _ _ ?_;clear hK K)|(refine hA ?_;clear hA hB A B)|(refine hK _ ?_;clear hK K))|((with_reducible refine z25 ?_);intro K hK;(conv=>whnf))|(with_reducible refine z0 ?_)|((first|((with_reducible refine NIf.decY ?s ?_);case s=>omega)|((with_reducible refine NIf.yes ?s ?_);case s=>rfl)|(with_reducible first|refine NN.cast ?_|refine NN.a5 ?_|refine NN.keep ?_)|((with_reducible refine NH.mk ?s ?_);case s=>(and_intros<;>first|with_reducible rfl|omega))|((with_reducible refine NCall.isF 80 ?_);refine NCall.subE [0] (c) rfl (by decide) rfl rfl ?_)|(with_reducible refine NLd.of (by with_reducible assumption) ?_))<;>(conv=>whnf))|(with_reducible first|refine z3 ?_|refine z4 ?_|refine z5 ?_|refine z6 ?_|refine z8 ?_)|((with_reducible refine z29 ?_);intro A B hA hB;(conv=>whnf))|(with_reducible first|refine z1 ?_|refine z2 ?_|refine z12 ?_|refine z13 ?_|refine z20 ?_)|((with_reducible refine gR ?_);(refine z31 rfl ?_;intro K hK;(conv=>whnf)))))
       all_goals exact ⟨by rw [decide_eq_true hy],MemFits.pre 1 rfl⟩
      ·rw [decide_eq_false hw] at c
       have hy:=hnext hw
       clear hyes hnext hw
       obtain ⟨xk,xf,xv,xl⟩:=x
       simp only [Pd.cs,Pd.T.k,Pd.T.f,Pd.T.v,Pd.T.l] at c c0 c1 c2 c3 hA
       (repeat' (first|(with_reducible first|(refine hK _ _ ?_;clear hK K)|(refine hA ?_;clear hA hB A B)|(refine hB ?_;clear hA hB A B))|((with_reducible refine z25 ?_);intro K hK;(conv=>whnf))|(with_reducible refine z0 ?_)|((first|((with_reducible refine NV.i64 ?s ?_);case s=>omega)|((with_reducible refine NIf.decY ?s ?_);case s=>omega)|((with_reducible refine NIf.no ?s ?_);case s=>rfl)|(with_reducible first|refine NN.cast ?_|refine NN.a5 ?_|refine NN.keep ?_)|((with_reducible refine NH.mk ?s ?_);case s=>(and_intros<;>first|with_reducible rfl|omega))|((with_reducible refine NCall.isF 80 ?_);refine NCall.subE [0] (c) rfl (by decide) rfl rfl ?_)|(with_reducible refine NLd.of (by with_reducible assumption) ?_))<;>(conv=>whnf))|(with_reducible first|refine z3 ?_|refine z4 ?_|refine z5 ?_|refine z6 ?_)|((with_reducible refine z29 ?_);intro A B hA hB;(conv=>whnf))|(with_reducible first|refine z1 ?_|refine z2 ?_|refine z9 ?_)))
       refine st_round (i+1) ⟨hlt,hy⟩ (by omega) ?_ (MemFits.eq rfl)
       repeat (first|exact FitsSl.nil|refine FitsSl.any ?_|refine FitsSl.cons (Fit1.int (by first | rfl | omega)) ?_|refine FitsSl.cons (Fit1.bool rfl) ?_|refine FitsSl.cons (Fit1.same (by intro h;cases h) (by with_reducible rfl)) ?_)
     ·have hkl:i=l.length:=by omega
      subst hkl
      rw [List.take_length] at hno
      (repeat' (first|(with_reducible first|(refine hK _ _ ?_;clear hK K)|(refine hB ?_;clear hA hB A B)|(refine hK _ ?_;clear hK K))|((with_reducible refine z25 ?_);intro K hK;(conv=>whnf))|(with_reducible refine z0 ?_)|((first|((with_reducible refine NIf.decN ?s ?_);case s=>omega)|(with_reducible refine NN.a5 ?_)|((with_reducible refine NH.mk ?s ?_);case s=>(and_intros<;>first|with_reducible rfl|omega)))<;>(conv=>whnf))|(with_reducible first|refine z3 ?_|refine z4 ?_|refine z7 ?_|refine z8 ?_)|((with_reducible refine z29 ?_);intro A B hA hB;(conv=>whnf))|(with_reducible first|refine z1 ?_|refine z2 ?_|refine z10 ?_|refine z11 ?_|refine z19 ?_)|((with_reducible refine gR ?_);(refine z31 rfl ?_;intro K hK;(conv=>whnf)))))
      all_goals exact ⟨by rw [decide_eq_false hno],MemFits.pre 1 rfl⟩
   ·(repeat' (first|(with_reducible first|(refine hK _ _ ?_;clear hK K)|(refine hB ?_;clear hA hB A B)|(refine hK _ ?_;clear hK K))|((with_reducible first|refine z25 ?_|refine z26 ?_);intro K hK;(conv=>whnf))|(with_reducible refine z0 ?_)|((first|((with_reducible refine NIf.decN ?s ?_);case s=>assumption)|((with_reducible refine NIf.no ?s ?_);case s=>rfl)|(with_reducible refine NN.a5 ?_)|((with_reducible refine NH.mk ?s ?_);case s=>(and_intros<;>with_reducible rfl)))<;>(conv=>whnf))|(with_reducible first|refine z3 ?_|refine z4 ?_|refine z5 ?_|refine z6 ?_)|((with_reducible refine z29 ?_);intro A B hA hB;(conv=>whnf))|(with_reducible first|refine z1 ?_|refine z2 ?_)|((with_reducible refine gF ?_);(refine z33 rfl ?_;intro K hK;(conv=>whnf)))|((intro _;skip)<;>(conv=>whnf))))
    refine st_auto (α:=Nat) (fun i=>i≤l.length∧¬ w∈Pd.valsL f (l.take i)) (fun i=>[.keep,.keep,.keep,.keep,.keep,.keep,.set (.bool false),.set (.int .i64 i),.keep,.keep,.keep,.keep,.keep,.keep,.keep,.keep,.keep,.keep,.keep,.keep,.keep,.keep,.keep,.drop,.drop,.drop,.drop,.drop,.drop,.drop,.drop,.drop,.drop,.drop,.drop,.drop,.drop,.drop]) (fun _=>[]) (fun i=>l.length - i) 0 ⟨Nat.zero_le _,by simp [Pd.valsL]⟩ ?_ (MemFits.eq rfl) ?_
    ·repeat (first|exact FitsSl.nil|refine FitsSl.any ?_|refine FitsSl.cons (Fit1.int (by first | rfl | omega)) ?_|refine FitsSl.cons (Fit1.bool rfl) ?_|refine FitsSl.cons (Fit1.same (by intro h;cases h) (by with_reducible rfl)) ?_)
    (intro i ⟨hi,hno⟩;intro K hK;(conv=>whnf);refine hK _ _ ?_;clear hK K)
    by_cases hlt:i<l.length
    ·have hx:l[i]?=some l[i]:=List.getElem?_eq_getElem hlt
     obtain ⟨A,cap,hA,c0,c1,c2,c3⟩:=hu.get hx
     have hmem:=List.mem_of_getElem? hx
     have c:=ih _ hmem _ hA
     have hnx:=Pd.valsL_take f hlt
     have hyes:w∈Pd.vals f l[i]→w∈Pd.valsL f l:=fun hw=>by
      have e:=Pd.valsL_append f (l.take (i+1)) (l.drop (i+1))
      rw [List.take_append_drop,hnx] at e
      rw [e]
      exact List.mem_append_left _ (List.mem_append_right _ hw)
     have hnext:¬ w∈Pd.vals f l[i]→¬ w∈Pd.valsL f (l.take (i+1)):=fun h1 h2=>by
      rw [hnx] at h2
      rcases List.mem_append.1 h2 with h2 | h2
      ·exact hno h2
      ·exact h1 h2
     clear ih e hnx
     generalize l[i]=x at *
     by_cases hw:w∈Pd.vals f x
     ·rw [decide_eq_true hw] at c
      have hy:=hyes hw
      clear hyes hnext hw
      obtain ⟨xk,xf,xv,xl⟩:=x
      simp only [Pd.cs,Pd.T.k,Pd.T.f,Pd.T.v,Pd.T.l] at c c0 c1 c2 c3 hA
      (repeat' (first|(with_reducible first|(refine hK _ _ ?_;clear hK K)|(refine hA ?_;clear hA hB A B)|(refine hK _ ?_;clear hK K))|((with_reducible refine z25 ?_);intro K hK;(conv=>whnf))|(with_reducible refine z0 ?_)|((first|((with_reducible refine NIf.decY ?s ?_);case s=>omega)|((with_reducible refine NIf.yes ?s ?_);case s=>rfl)|(with_reducible first|refine NN.cast ?_|refine NN.a5 ?_|refine NN.keep ?_)|((with_reducible refine NH.mk ?s ?_);case s=>(and_intros<;>first|with_reducible rfl|omega))|((with_reducible refine NCall.isF 80 ?_);refine NCall.subE [0] (c) rfl (by decide) rfl rfl ?_)|(with_reducible refine NLd.of (by with_reducible assumption) ?_))<;>(conv=>whnf))|(with_reducible first|refine z3 ?_|refine z4 ?_|refine z5 ?_|refine z6 ?_|refine z8 ?_)|((with_reducible refine z29 ?_);intro A B hA hB;(conv=>whnf))|(with_reducible first|refine z1 ?_|refine z2 ?_|refine z12 ?_|refine z13 ?_|refine z20 ?_)|((with_reducible refine gR ?_);(refine z31 rfl ?_;intro K hK;(conv=>whnf)))))
      all_goals exact ⟨by rw [decide_eq_true hy],MemFits.pre 1 rfl⟩
     ·rw [decide_eq_false hw] at c
      have hy:=hnext hw
      clear hyes hnext hw
      obtain ⟨xk,xf,xv,xl⟩:=x
      simp only [Pd.cs,Pd.T.k,Pd.T.f,Pd.T.v,Pd.T.l] at c c0 c1 c2 c3 hA
      (repeat' (first|(with_reducible first|(refine hK _ _ ?_;clear hK K)|(refine hA ?_;clear hA hB A B)|(refine hB ?_;clear hA hB A B))|((with_reducible refine z25 ?_);intro K hK;(conv=>whnf))|(with_reducible refine z0 ?_)|((first|((with_reducible refine NV.i64 ?s ?_);case s=>omega)|((with_reducible refine NIf.decY ?s ?_);case s=>omega)|((with_reducible refine NIf.no ?s ?_);case s=>rfl)|(with_reducible first|refine NN.cast ?_|refine NN.a5 ?_|refine NN.keep ?_)|((with_reducible refine NH.mk ?s ?_);case s=>(and_intros<;>first|with_reducible rfl|omega))|((with_reducible refine NCall.isF 80 ?_);refine NCall.subE [0] (c) rfl (by decide) rfl rfl ?_)|(with_reducible refine NLd.of (by with_reducible assumption) ?_))<;>(conv=>whnf))|(with_reducible first|refine z3 ?_|refine z4 ?_|refine z5 ?_|refine z6 ?_)|((with_reducible refine z29 ?_);intro A B hA hB;(conv=>whnf))|(with_reducible first|refine z1 ?_|refine z2 ?_|refine z9 ?_)))
      refine st_round (i+1) ⟨hlt,hy⟩ (by omega) ?_ (MemFits.eq rfl)
      repeat (first|exact FitsSl.nil|refine FitsSl.any ?_|refine FitsSl.cons (Fit1.int (by first | rfl | omega)) ?_|refine FitsSl.cons (Fit1.bool rfl) ?_|refine FitsSl.cons (Fit1.same (by intro h;cases h) (by with_reducible rfl)) ?_)
    ·have hkl:i=l.length:=by omega
     subst hkl
     rw [List.take_length] at hno
     (repeat' (first|(with_reducible first|(refine hK _ _ ?_;clear hK K)|(refine hB ?_;clear hA hB A B)|(refine hK _ ?_;clear hK K))|((with_reducible refine z25 ?_);intro K hK;(conv=>whnf))|(with_reducible refine z0 ?_)|((first|((with_reducible refine NIf.decN ?s ?_);case s=>omega)|(with_reducible refine NN.a5 ?_)|((with_reducible refine NH.mk ?s ?_);case s=>(and_intros<;>first|with_reducible rfl|omega)))<;>(conv=>whnf))|(with_reducible first|refine z3 ?_|refine z4 ?_|refine z7 ?_|refine z8 ?_)|((with_reducible refine z29 ?_);intro A B hA hB;(conv=>whnf))|(with_reducible first|refine z1 ?_|refine z2 ?_|refine z10 ?_|refine z11 ?_|refine z19 ?_)|((with_reducible refine gR ?_);(refine z31 rfl ?_;intro K hK;(conv=>whnf)))))
     all_goals exact ⟨by rw [decide_eq_false hno],MemFits.pre 1 rfl⟩
theorem Srt.know {f:FuncId} {args:List AV} {F:Heap} {t:TypeId} {m:List Blk} {l:List Int} (h:NCall Tryz.prog f args m fun r m'=>∃ v,r.den=slOf v∧MemFits m' [hpB F,⟨addrOf v,Srt.av l,.row v t 1 l.length⟩]) :
  NCall Tryz.prog f args m fun r m'=>Srt.Lays F l r m':=by
 refine Go.Sx.NCall.know h fun r m' ⟨v,hr,hm⟩ ⟨w,hw⟩=>?_
 have hok:=((hm w hw).1.row (List.mem_cons_of_mem _ (List.mem_cons_self ..))).1
 have hrow:=rowF_new (F:=F) (sz:=1) (enc:=Srt.V) hok (Srt.av_flat _) (fun x _=>rfl)
 exact ⟨.hs v l.length,_,hr.symm,hm.trans (MemFits.freeze (m:=[])),_,v,addF.old,hrow,rfl,rfl⟩
theorem Srt.reads {F:Heap} {v:Value} {l:List Int} (h:Srt.Row F v l):(Srt.av l).length=l.length*1∧CellsF F (addrOf v) 0 (denL (Srt.av l)):=by
 rw [Srt.av_flat]
 exact ⟨by rw [Srt.av_len];omega,h.all.1⟩
theorem Srt.ones (l:List Int):Go.Sx.ones (Srt.av l)=true:=by
 induction l with
 | nil=>rfl
 | cons x l ih=>simpa [Srt.av,Go.Sx.ones] using ih
theorem Po.values_comp (f:Int) (x:Po.T):Srt.comp (Srt.sort (Po.vals f x))=Po.values f x:=Pd.comp_once _
theorem values27_c (f:Int) (hf : -9223372036854775808≤f∧f≤9223372036854775807):∀ (n:Nat) (F:Heap) (x:Po.T) (pu u:Value) (out:List Int) (w:Value),Po.tot x≤n→out.length+Po.tot x≤2932031007402→Po.At F x pu u →
  NCall Tryz.prog 55 [.sl 1 w out.length,.agg (Po.cs x pu u),.int .i64 f] [hpB F,⟨addrOf w,Srt.av out,.row w 3 1 out.length⟩]
   fun r m=>∃ F' w',F.le F'∧r = .sl 1 w' (out++Po.vals f x).length∧m=[hpB F',⟨addrOf w',Srt.av (out++Po.vals f x),.row w' 3 1 (out++Po.vals f x).length⟩]
 | 0,F,x,pu,u,out,w,hn,_,_=>absurd (Po.tot_pos x) (by omega)
 | n+1,F,⟨k,p,a,v,l⟩,pu,u,out,w,hn,hs,hx=>by
  refine NCall.fits (K:=fun r m=>∃ F' w',F.le F'∧r = .sl 1 w' (out++Po.vals f (.mk k p a v l)).length∧MemFits m [hpB F',⟨addrOf w',Srt.av (out++Po.vals f (.mk k p a v l)),.row w' 3 1 (out++Po.vals f (.mk k p a v l)).length⟩]) ?_ fun r m' ⟨F',w',h0,h1,h2⟩=>⟨r,_,rfl,h2,F',w',h0,h1,rfl⟩
  have hu:Po.Row F u l:=hx.l
  have hpu:Pd.Row F pu p.l:=hx.p
  have hok:=hu.ok
  have hpok:=hpu.ok
  have e2:=Po.tot_mk k p a v l
  have hll:=Po.length_le l
  have ih:∀ G,∀ x∈l,∀ pA A,Po.At G x pA A→∀ (o:List Int) (w:Value),o.length+Po.tot x≤2932031007402→NCall Tryz.prog 55 [.sl 1 w o.length,.agg (Po.cs x pA A),.int .i64 f] [hpB G,⟨addrOf w,Srt.av o,.row w 3 1 o.length⟩]
    fun r m=>∃ F' w',G.le F'∧r = .sl 1 w' (o++Po.vals f x).length∧m=[hpB F',⟨addrOf w',Srt.av (o++Po.vals f x),.row w' 3 1 (o++Po.vals f x).length⟩] :=
   fun G x hx pA A hA o w ho=>values27_c f hf n G x pA A o w (by have:=Po.tot_lt (k:=k) (q:=p) (f:=a) (v:=v) hx;omega) ho hA
  have cv:=Values26_c F p pu f hf (by omega) hpu
  have hpl:=Po.pvalues_len f p
  have hol:out.length≤out.length:=Nat.le_refl _
  have hav:=Srt.av_len out
  have hfin:∀ o1,out++(if k=2∧a=f then [v] else [])++Pd.values f p=o1→out++Po.vals f (.mk k p a v l)=o1++Po.valsL f l:=fun o1 e=>by rw [Po.vals,← e];simp [List.append_assoc]
  have hvl:∀ i,(Po.valsL f (l.take i)).length≤Po.totL (l.take i):=fun i=>Po.valsL_len f _
  generalize hL:Pd.values f p=L at *
  clear hL hx
  rw [po_cs]
  obtain ⟨pk,pf,pv,pl⟩:=p
  simp only [pd_cs,Pd.T.k,Pd.T.f,Pd.T.v,Pd.T.l] at *
  refine ncall_of Tryz.func55 rfl (by decide) ?_
  by_cases hk:k=2
  ·subst hk
   by_cases ha:a=f
   ·subst ha
    have hLo:=fun (F1:Heap) (v1:Value) (h:Srt.Row F1 v1 L)=>h.ok
    have hfin:=hfin (out++[v]++L) (by simp)
    rw [hfin]
    have hol1:(out++[v]++L).length=out.length+(0+1)+L.length:=by
     simp only [List.length_append,List.length_cons,List.length_nil]
    have hav1:Srt.av (out++[v]++L)=Srt.av out++Srt.av [v]++Srt.av L:=by simp only [Srt.av_append]
    clear hfin hn
    generalize ho1:out++[v]++L=o1 at *
    generalize Srt.av out=ao at *
    (repeat' (first|(with_reducible first|(refine hK _ _ ?_;clear hK K)|(refine hA ?_;clear hA hB A B)|(refine hK _ ?_;clear hK K))|((with_reducible refine gO ?_);(first|((with_reducible first|refine z25 ?_|refine z26 ?_);intro K hK;(conv=>whnf))|(with_reducible refine z0 ?_)))|((first|((with_reducible refine gI ?_);(((with_reducible refine NIf.decY ?s ?_);case s=>with_reducible rfl)))|((with_reducible refine gN ?_);(with_reducible refine NN.a5 ?_))|((with_reducible refine gH ?_);((((with_reducible refine NH.mk ?side ?_);case side=>(and_intros<;>first | with_reducible rfl | omega | ((first | exact hrow.ok | exact Srt.ones _ | rfl)))))))|((with_reducible refine gC ?_);((with_reducible refine NCall.isF 87 ?_);refine NCall.subw [0] _ _ (cv) rfl (by decide) rfl ?_;rintro _ _ ⟨F1,v1,hle1,hrow,rfl,rfl⟩;refine ⟨Nat.le_of_ble_eq_true rfl,_,rfl,?_⟩)))<;>(conv=>whnf))|(refine NRd.of (Srt.av L) (Srt.reads hrow).1 (Srt.reads hrow).2 ?_;conv=>whnf)|((with_reducible refine gX ?_);(first|(with_reducible first|refine z3 ?_|refine z4 ?_|refine z5 ?_)|((with_reducible refine z29 ?_);intro A B hA hB;(conv=>whnf))))|(with_reducible first|refine z1 ?_|refine z2 ?_)|((with_reducible refine gF ?_);((refine z33 rfl ?_);intro K hK;(conv=>whnf)))|((intro _;skip)<;>(conv=>whnf))))
    rename_i w2
    have e0:o1++Po.valsL a (l.take 0)=o1:=by simp [Po.valsL]
    refine st_auto (α:=Heap × Value × Nat) (fun (G,w,i)=>F.le G∧i≤l.length) (fun (G,w,i)=>[.set (.sl 1 w (o1++Po.valsL a (l.take i)).length),.keep,.keep,.keep,.keep,.keep,.keep,.keep,.drop,.keep,.keep,.keep,.keep,.keep,.keep,.keep,.keep,.keep,.keep,.keep,.keep,.keep,.keep,.keep,.keep,.keep,.keep,.keep,.keep,.keep,.keep,.keep,.set (.int .i64 i),.drop,.drop,.drop,.drop,.drop,.drop,.drop,.drop,.keep]) (fun (G,w,i)=>[.set (hpB G),.set ⟨addrOf w,Srt.av (o1++Po.valsL a (l.take i)),.row w 3 1 (o1++Po.valsL a (l.take i)).length⟩]) (fun (G,w,i)=>l.length - i) (F1,w2,0) ⟨hle1,Nat.zero_le _⟩ ?_ ?_ ?_
    ·dsimp only
     rw [e0,hol1]
     repeat (first|exact FitsSl.nil|refine FitsSl.any ?_|refine FitsSl.cons (Fit1.int (by first | rfl | omega)) ?_|refine FitsSl.cons (Fit1.bool rfl) ?_|refine FitsSl.cons (Fit1.same (by intro h;cases h) (by with_reducible rfl)) ?_)
    ·dsimp only
     rw [e0]
     exact MemFits.congr (by simp only [autoM,hav1,hol1,List.append_nil];try rfl)
    (intro ⟨G,w,i⟩ ⟨hle,hi⟩;intro K hK;(conv=>whnf);refine hK _ _ ?_;clear hK K)
    dsimp only
    by_cases hlt:i<l.length
    ·have hx:l[i]?=some l[i]:=List.getElem?_eq_getElem hlt
     obtain ⟨pA,pcap,A,cap,hA,c0,c1,c2,c3,c4,c5,c6,c7⟩:=(Po.Row.mono hle hu).get hx
     have hAo:=hA.l.ok
     have hAp:=hA.p.ok
     have hmem:=List.mem_of_getElem? hx
     have hst:=Po.totL_take hlt
     have hle2:=Po.totL_le (l:=l) (k:=i+1)
     have hvi:=hvl i
     have hO:o1++Po.valsL a (l.take (i+1))=o1++Po.valsL a (l.take i)++Po.vals a l[i]:=by rw [Po.valsL_take _ hlt,List.append_assoc]
     have hlo:(o1++Po.valsL a (l.take i)).length=o1.length+(Po.valsL a (l.take i)).length:=List.length_append
     have c:=ih G _ hmem _ _ hA (o1++Po.valsL a (l.take i)) w (by omega)
     rw [← hO] at c
     clear ih hvl hO
     generalize l[i]=y at *
     obtain ⟨yk,⟨ypk,ypf,ypv,ypl⟩,yf,yv,yl⟩:=y
     simp only [Po.cs,Po.T.k,Po.T.p,Po.T.f,Po.T.v,Po.T.l,Pd.T.k,Pd.T.f,Pd.T.v,Pd.T.l] at c c0 c1 c2 c3 c4 c5 c6 c7 hAo hAp
     generalize o1++Po.valsL a (l.take i)=O at *
     generalize hO2:o1++Po.valsL a (l.take (i+1))=O2 at *
     (repeat' (first|(with_reducible first|(refine hK _ _ ?_;clear hK K)|(refine hA ?_;clear hA hB A B))|((with_reducible refine z25 ?_);intro K hK;(conv=>whnf))|(with_reducible refine z0 ?_)|((first|((with_reducible refine NV.i64 ?s ?_);case s=>omega)|((with_reducible refine NIf.decY ?s ?_);case s=>omega)|(with_reducible first|refine NN.cast ?_|refine NN.keep ?_)|((with_reducible refine NH.mk ?s ?_);case s=>(and_intros<;>first|with_reducible rfl|((with_reducible refine gOnes ?_);rfl)|((with_reducible refine gLen ?_);rfl)|omega))|((with_reducible refine NCall.isF 55 ?_);refine NCall.subw [0,1] _ _ (c) rfl (by decide) rfl ?_;rintro _ _ ⟨G',w',hle3,rfl,rfl⟩;refine ⟨Nat.le_of_ble_eq_true rfl,_,rfl,?_⟩)|(with_reducible refine NLd.of (by with_reducible assumption) ?_))<;>(conv=>whnf))|(with_reducible first|refine z3 ?_|refine z4 ?_|refine z5 ?_|refine z6 ?_)|((with_reducible refine z29 ?_);intro A B hA hB;(conv=>whnf))|(with_reducible first|refine z1 ?_|refine z2 ?_|refine z9 ?_)|((intro _;skip)<;>(conv=>whnf))))
     refine st_round (G',w',i+1) ⟨hle.trans hle3,hlt⟩ (by show l.length - (i+1)<l.length - i;omega) ?_ (MemFits.pre 4 ?_)
     ·dsimp only
      rw [hO2]
      repeat (first|exact FitsSl.nil|refine FitsSl.any ?_|refine FitsSl.cons (Fit1.int (by first | rfl | omega)) ?_|refine FitsSl.cons (Fit1.bool rfl) ?_|refine FitsSl.cons (Fit1.same (by intro h;cases h) (by with_reducible rfl)) ?_)
     ·simp only [autoM,List.take,hO2]
      try rfl
    ·have hkl:i=l.length:=by omega
     subst hkl
     rw [List.take_length]
     clear ih
     (repeat' (first|(with_reducible first|(refine hK _ _ ?_;clear hK K)|(refine hB ?_;clear hA hB A B)|(refine hK _ ?_;clear hK K))|((with_reducible refine z25 ?_);intro K hK;(conv=>whnf))|(with_reducible refine z0 ?_)|(((with_reducible refine NIf.decN ?s ?_);case s=>omega)<;>(conv=>whnf))|(with_reducible first|refine z3 ?_|refine z4 ?_|refine z7 ?_|refine z8 ?_)|((with_reducible refine z29 ?_);intro A B hA hB;(conv=>whnf))|(with_reducible first|refine z1 ?_|refine z2 ?_|refine z10 ?_|refine z11 ?_|refine z19 ?_)|((with_reducible refine gR ?_);(refine z31 rfl ?_;intro K hK;(conv=>whnf)))))
     all_goals exact ⟨G,w,hle,rfl,MemFits.pre 2 rfl⟩
   ·rw [if_neg (fun h=>ha h.2)] at hfin
    have hLo:=fun (F1:Heap) (v1:Value) (h:Srt.Row F1 v1 L)=>h.ok
    have hfin:=hfin (out++L) (by simp)
    rw [hfin]
    have hol1:(out++L).length=out.length+L.length:=by
     simp only [List.length_append,List.length_cons,List.length_nil]
    have hav1:Srt.av (out++L)=Srt.av out++Srt.av L:=by simp only [Srt.av_append]
    clear hfin hn
    generalize ho1:out++L=o1 at *
    generalize Srt.av out=ao at *
    (repeat' (first|(with_reducible first|(refine hK _ _ ?_;clear hK K)|(refine hB ?_;clear hA hB A B)|(refine hK _ ?_;clear hK K))|((with_reducible refine gO ?_);(first|((with_reducible first|refine z25 ?_|refine z26 ?_);intro K hK;(conv=>whnf))|(with_reducible refine z0 ?_)))|((first|((with_reducible refine gI ?_);(first|((with_reducible refine NIf.decY ?s ?_);case s=>with_reducible rfl)|((with_reducible refine NIf.decN ?s ?_);case s=>assumption)))|((with_reducible refine gN ?_);(with_reducible refine NN.a5 ?_))|((with_reducible refine gH ?_);((((with_reducible refine NH.mk ?side ?_);case side=>(and_intros<;>first | with_reducible rfl | omega | ((first | exact hrow.ok | exact Srt.ones _ | rfl)))))))|((with_reducible refine gC ?_);((with_reducible refine NCall.isF 87 ?_);refine NCall.subw [0] _ _ (cv) rfl (by decide) rfl ?_;rintro _ _ ⟨F1,v1,hle1,hrow,rfl,rfl⟩;refine ⟨Nat.le_of_ble_eq_true rfl,_,rfl,?_⟩)))<;>(conv=>whnf))|(refine NRd.of (Srt.av L) (Srt.reads hrow).1 (Srt.reads hrow).2 ?_;conv=>whnf)|((with_reducible refine gX ?_);(first|(with_reducible first|refine z3 ?_|refine z4 ?_|refine z5 ?_|refine z6 ?_)|((with_reducible refine z29 ?_);intro A B hA hB;(conv=>whnf))))|(with_reducible first|refine z1 ?_|refine z2 ?_)|((with_reducible refine gF ?_);((refine z33 rfl ?_);intro K hK;(conv=>whnf)))|((intro _;skip)<;>(conv=>whnf))))
    rename_i w2
    have e0:o1++Po.valsL f (l.take 0)=o1:=by simp [Po.valsL]
    refine st_auto (α:=Heap × Value × Nat) (fun (G,w,i)=>F.le G∧i≤l.length) (fun (G,w,i)=>[.set (.sl 1 w (o1++Po.valsL f (l.take i)).length),.keep,.keep,.keep,.keep,.keep,.keep,.keep,.drop,.keep,.keep,.keep,.keep,.keep,.keep,.keep,.keep,.keep,.keep,.keep,.keep,.keep,.keep,.keep,.keep,.keep,.keep,.keep,.keep,.keep,.keep,.keep,.set (.int .i64 i),.drop,.drop,.drop,.drop,.drop,.drop,.drop,.drop,.keep]) (fun (G,w,i)=>[.set (hpB G),.set ⟨addrOf w,Srt.av (o1++Po.valsL f (l.take i)),.row w 3 1 (o1++Po.valsL f (l.take i)).length⟩]) (fun (G,w,i)=>l.length - i) (F1,w2,0) ⟨hle1,Nat.zero_le _⟩ ?_ ?_ ?_
    ·dsimp only
     rw [e0,hol1]
     repeat (first|exact FitsSl.nil|refine FitsSl.any ?_|refine FitsSl.cons (Fit1.int (by first | rfl | omega)) ?_|refine FitsSl.cons (Fit1.bool rfl) ?_|refine FitsSl.cons (Fit1.same (by intro h;cases h) (by with_reducible rfl)) ?_)
    ·dsimp only
     rw [e0]
     exact MemFits.congr (by simp only [autoM,hav1,hol1,List.append_nil];try rfl)
    (intro ⟨G,w,i⟩ ⟨hle,hi⟩;intro K hK;(conv=>whnf);refine hK _ _ ?_;clear hK K)
    dsimp only
    by_cases hlt:i<l.length
    ·have hx:l[i]?=some l[i]:=List.getElem?_eq_getElem hlt
     obtain ⟨pA,pcap,A,cap,hA,c0,c1,c2,c3,c4,c5,c6,c7⟩:=(Po.Row.mono hle hu).get hx
     have hAo:=hA.l.ok
     have hAp:=hA.p.ok
     have hmem:=List.mem_of_getElem? hx
     have hst:=Po.totL_take hlt
     have hle2:=Po.totL_le (l:=l) (k:=i+1)
     have hvi:=hvl i
     have hO:o1++Po.valsL f (l.take (i+1))=o1++Po.valsL f (l.take i)++Po.vals f l[i]:=by rw [Po.valsL_take _ hlt,List.append_assoc]
     have hlo:(o1++Po.valsL f (l.take i)).length=o1.length+(Po.valsL f (l.take i)).length:=List.length_append
     have c:=ih G _ hmem _ _ hA (o1++Po.valsL f (l.take i)) w (by omega)
     rw [← hO] at c
     clear ih hvl hO
     generalize l[i]=y at *
     obtain ⟨yk,⟨ypk,ypf,ypv,ypl⟩,yf,yv,yl⟩:=y
     simp only [Po.cs,Po.T.k,Po.T.p,Po.T.f,Po.T.v,Po.T.l,Pd.T.k,Pd.T.f,Pd.T.v,Pd.T.l] at c c0 c1 c2 c3 c4 c5 c6 c7 hAo hAp
     generalize o1++Po.valsL f (l.take i)=O at *
     generalize hO2:o1++Po.valsL f (l.take (i+1))=O2 at *
     (repeat' (first|(with_reducible first|(refine hK _ _ ?_;clear hK K)|(refine hA ?_;clear hA hB A B))|((with_reducible refine z25 ?_);intro K hK;(conv=>whnf))|(with_reducible refine z0 ?_)|((first|((with_reducible refine NV.i64 ?s ?_);case s=>omega)|((with_reducible refine NIf.decY ?s ?_);case s=>omega)|(with_reducible first|refine NN.cast ?_|refine NN.keep ?_)|((with_reducible refine NH.mk ?s ?_);case s=>(and_intros<;>first|with_reducible rfl|((with_reducible refine gOnes ?_);rfl)|((with_reducible refine gLen ?_);rfl)|omega))|((with_reducible refine NCall.isF 55 ?_);refine NCall.subw [0,1] _ _ (c) rfl (by decide) rfl ?_;rintro _ _ ⟨G',w',hle3,rfl,rfl⟩;refine ⟨Nat.le_of_ble_eq_true rfl,_,rfl,?_⟩)|(with_reducible refine NLd.of (by with_reducible assumption) ?_))<;>(conv=>whnf))|(with_reducible first|refine z3 ?_|refine z4 ?_|refine z5 ?_|refine z6 ?_)|((with_reducible refine z29 ?_);intro A B hA hB;(conv=>whnf))|(with_reducible first|refine z1 ?_|refine z2 ?_|refine z9 ?_)|((intro _;skip)<;>(conv=>whnf))))
     refine st_round (G',w',i+1) ⟨hle.trans hle3,hlt⟩ (by show l.length - (i+1)<l.length - i;omega) ?_ (MemFits.pre 3 ?_)
     ·dsimp only
      rw [hO2]
      repeat (first|exact FitsSl.nil|refine FitsSl.any ?_|refine FitsSl.cons (Fit1.int (by first | rfl | omega)) ?_|refine FitsSl.cons (Fit1.bool rfl) ?_|refine FitsSl.cons (Fit1.same (by intro h;cases h) (by with_reducible rfl)) ?_)
     ·simp only [autoM,List.take,hO2]
      try rfl
    ·have hkl:i=l.length:=by omega
     subst hkl
     rw [List.take_length]
     clear ih
     (repeat' (first|(with_reducible first|(refine hK _ _ ?_;clear hK K)|(refine hB ?_;clear hA hB A B)|(refine hK _ ?_;clear hK K))|((with_reducible refine z25 ?_);intro K hK;(conv=>whnf))|(with_reducible refine z0 ?_)|(((with_reducible refine NIf.decN ?s ?_);case s=>omega)<;>(conv=>whnf))|(with_reducible first|refine z3 ?_|refine z4 ?_|refine z7 ?_|refine z8 ?_)|((with_reducible refine z29 ?_);intro A B hA hB;(conv=>whnf))|(with_reducible first|refine z1 ?_|refine z2 ?_|refine z10 ?_|refine z11 ?_|refine z19 ?_)|((with_reducible refine gR ?_);(refine z31 rfl ?_;intro K hK;(conv=>whnf)))))
     all_goals exact ⟨G,w,hle,rfl,MemFits.pre 2 rfl⟩
  ·rw [if_neg (fun h=>hk h.1)] at hfin
   have hLo:=fun (F1:Heap) (v1:Value) (h:Srt.Row F1 v1 L)=>h.ok
   have hfin:=hfin (out++L) (by simp)
   rw [hfin]
   have hol1:(out++L).length=out.length+L.length:=by
    simp only [List.length_append,List.length_cons,List.length_nil]
   have hav1:Srt.av (out++L)=Srt.av out++Srt.av L:=by simp only [Srt.av_append]
   clear hfin hn
   generalize ho1:out++L=o1 at *
   generalize Srt.av out=ao at *
   (repeat' (first|(with_reducible first|(refine hK _ _ ?_;clear hK K)|(refine hB ?_;clear hA hB A B)|(refine hK _ ?_;clear hK K))|((with_reducible refine gO ?_);(first|((with_reducible first|refine z25 ?_|refine z26 ?_);intro K hK;(conv=>whnf))|(with_reducible refine z0 ?_)))|((first|((with_reducible refine gI ?_);(first|((with_reducible refine NIf.decN ?s ?_);case s=>assumption)|((with_reducible refine NIf.no ?s ?_);case s=>rfl)))|((with_reducible refine gN ?_);(with_reducible refine NN.a5 ?_))|((with_reducible refine gH ?_);((((with_reducible refine NH.mk ?side ?_);case side=>(and_intros<;>first | with_reducible rfl | omega | ((first | exact hrow.ok | exact Srt.ones _ | rfl)))))))|((with_reducible refine gC ?_);((with_reducible refine NCall.isF 87 ?_);refine NCall.subw [0] _ _ (cv) rfl (by decide) rfl ?_;rintro _ _ ⟨F1,v1,hle1,hrow,rfl,rfl⟩;refine ⟨Nat.le_of_ble_eq_true rfl,_,rfl,?_⟩)))<;>(conv=>whnf))|(refine NRd.of (Srt.av L) (Srt.reads hrow).1 (Srt.reads hrow).2 ?_;conv=>whnf)|((with_reducible refine gX ?_);(first|(with_reducible first|refine z3 ?_|refine z4 ?_|refine z5 ?_|refine z6 ?_)|((with_reducible refine z29 ?_);intro A B hA hB;(conv=>whnf))))|(with_reducible first|refine z1 ?_|refine z2 ?_)|((with_reducible refine gF ?_);((refine z33 rfl ?_);intro K hK;(conv=>whnf)))|((intro _;skip)<;>(conv=>whnf))))
   rename_i w2
   have e0:o1++Po.valsL f (l.take 0)=o1:=by simp [Po.valsL]
   refine st_auto (α:=Heap × Value × Nat) (fun (G,w,i)=>F.le G∧i≤l.length) (fun (G,w,i)=>[.set (.sl 1 w (o1++Po.valsL f (l.take i)).length),.keep,.keep,.keep,.keep,.keep,.keep,.keep,.drop,.keep,.keep,.keep,.keep,.keep,.keep,.keep,.keep,.keep,.keep,.keep,.keep,.keep,.keep,.keep,.keep,.keep,.keep,.keep,.keep,.keep,.keep,.keep,.set (.int .i64 i),.drop,.drop,.drop,.drop,.drop,.drop,.drop,.drop,.keep]) (fun (G,w,i)=>[.set (hpB G),.set ⟨addrOf w,Srt.av (o1++Po.valsL f (l.take i)),.row w 3 1 (o1++Po.valsL f (l.take i)).length⟩]) (fun (G,w,i)=>l.length - i) (F1,w2,0) ⟨hle1,Nat.zero_le _⟩ ?_ ?_ ?_
   ·dsimp only
    rw [e0,hol1]
    repeat (first|exact FitsSl.nil|refine FitsSl.any ?_|refine FitsSl.cons (Fit1.int (by first | rfl | omega)) ?_|refine FitsSl.cons (Fit1.bool rfl) ?_|refine FitsSl.cons (Fit1.same (by intro h;cases h) (by with_reducible rfl)) ?_)
   ·dsimp only
    rw [e0]
    exact MemFits.congr (by simp only [autoM,hav1,hol1,List.append_nil];try rfl)
   (intro ⟨G,w,i⟩ ⟨hle,hi⟩;intro K hK;(conv=>whnf);refine hK _ _ ?_;clear hK K)
   dsimp only
   by_cases hlt:i<l.length
   ·have hx:l[i]?=some l[i]:=List.getElem?_eq_getElem hlt
    obtain ⟨pA,pcap,A,cap,hA,c0,c1,c2,c3,c4,c5,c6,c7⟩:=(Po.Row.mono hle hu).get hx
    have hAo:=hA.l.ok
    have hAp:=hA.p.ok
    have hmem:=List.mem_of_getElem? hx
    have hst:=Po.totL_take hlt
    have hle2:=Po.totL_le (l:=l) (k:=i+1)
    have hvi:=hvl i
    have hO:o1++Po.valsL f (l.take (i+1))=o1++Po.valsL f (l.take i)++Po.vals f l[i]:=by rw [Po.valsL_take _ hlt,List.append_assoc]
    have hlo:(o1++Po.valsL f (l.take i)).length=o1.length+(Po.valsL f (l.take i)).length:=List.length_append
    have c:=ih G _ hmem _ _ hA (o1++Po.valsL f (l.take i)) w (by omega)
    rw [← hO] at c
    clear ih hvl hO
    generalize l[i]=y at *
    obtain ⟨yk,⟨ypk,ypf,ypv,ypl⟩,yf,yv,yl⟩:=y
    simp only [Po.cs,Po.T.k,Po.T.p,Po.T.f,Po.T.v,Po.T.l,Pd.T.k,Pd.T.f,Pd.T.v,Pd.T.l] at c c0 c1 c2 c3 c4 c5 c6 c7 hAo hAp
    generalize o1++Po.valsL f (l.take i)=O at *
    generalize hO2:o1++Po.valsL f (l.take (i+1))=O2 at *
    (repeat' (first|(with_reducible first|(refine hK _ _ ?_;clear hK K)|(refine hA ?_;clear hA hB A B))|((with_reducible refine z25 ?_);intro K hK;(conv=>whnf))|(with_reducible refine z0 ?_)|((first|((with_reducible refine NV.i64 ?s ?_);case s=>omega)|((with_reducible refine NIf.decY ?s ?_);case s=>omega)|(with_reducible first|refine NN.cast ?_|refine NN.keep ?_)|((with_reducible refine NH.mk ?s ?_);case s=>(and_intros<;>first|with_reducible rfl|((with_reducible refine gOnes ?_);rfl)|((with_reducible refine gLen ?_);rfl)|omega))|((with_reducible refine NCall.isF 55 ?_);refine NCall.subw [0,1] _ _ (c) rfl (by decide) rfl ?_;rintro _ _ ⟨G',w',hle3,rfl,rfl⟩;refine ⟨Nat.le_of_ble_eq_true rfl,_,rfl,?_⟩)|(with_reducible refine NLd.of (by with_reducible assumption) ?_))<;>(conv=>whnf))|(with_reducible first|refine z3 ?_|refine z4 ?_|refine z5 ?_|refine z6 ?_)|((with_reducible refine z29 ?_);intro A B hA hB;(conv=>whnf))|(with_reducible first|refine z1 ?_|refine z2 ?_|refine z9 ?_)|((intro _;skip)<;>(conv=>whnf))))
    refine st_round (G',w',i+1) ⟨hle.trans hle3,hlt⟩ (by show l.length - (i+1)<l.length - i;omega) ?_ (MemFits.pre 3 ?_)
    ·dsimp only
     rw [hO2]
     repeat (first|exact FitsSl.nil|refine FitsSl.any ?_|refine FitsSl.cons (Fit1.int (by first | rfl | omega)) ?_|refine FitsSl.cons (Fit1.bool rfl) ?_|refine FitsSl.cons (Fit1.same (by intro h;cases h) (by with_reducible rfl)) ?_)
    ·simp only [autoM,List.take,hO2]
     try rfl
   ·have hkl:i=l.length:=by omega
    subst hkl
    rw [List.take_length]
    clear ih
    (repeat' (first|(with_reducible first|(refine hK _ _ ?_;clear hK K)|(refine hB ?_;clear hA hB A B)|(refine hK _ ?_;clear hK K))|((with_reducible refine z25 ?_);intro K hK;(conv=>whnf))|(with_reducible refine z0 ?_)|(((with_reducible refine NIf.decN ?s ?_);case s=>omega)<;>(conv=>whnf))|(with_reducible first|refine z3 ?_|refine z4 ?_|refine z7 ?_|refine z8 ?_)|((with_reducible refine z29 ?_);intro A B hA hB;(conv=>whnf))|(with_reducible first|refine z1 ?_|refine z2 ?_|refine z10 ?_|refine z11 ?_|refine z19 ?_)|((with_reducible refine gR ?_);(refine z31 rfl ?_;intro K hK;(conv=>whnf)))))
    all_goals exact ⟨G,w,hle,rfl,MemFits.pre 2 rfl⟩
theorem Values27_c (F:Heap) (x:Po.T) (pu u:Value) (f:Int) (hf : -9223372036854775808≤f∧f≤9223372036854775807) (hs:Po.tot x≤2932031007402) (hx:Po.At F x pu u) :
  NCall Tryz.prog 26 [.agg (Po.cs x pu u),.int .i64 f] [hpB F] fun r m=>Srt.Lays F (Po.values f x) r m:=by
 have hln:=Po.vals_len f x
 have c1:=values27_c f hf _ F x pu u [] (.slice none 0 0) (Nat.le_refl _) (by simpa using hs) hx
 have c0:NCall Tryz.prog 55 [.raw (.slice none 0 0),.agg (Po.cs x pu u),.int .i64 f] [hpB F] _:=NCall.rowPre c1 rfl
 rw [List.nil_append] at c0
 clear c1
 have hv:=Po.values_comp f x
 have hsl:=Srt.sort_len (Po.vals f x)
 refine Go.Sx.NCall.know (K:=fun r m=>∃ F' v,F.le F'∧r = .raw (Srt.cutTo v (Po.values f x).length)∧MemFits m [hpB F',⟨addrOf v,Srt.av (Srt.comped (Srt.sort (Po.vals f x))),.row v 3 1 (Po.vals f x).length⟩]) ?_ fun r m' ⟨F',v,hF,hr,hm⟩ ⟨w,hw⟩=>?_
 ·rw [← hv]
  have c2:=fun v=>sort_c v 3 (Po.vals f x) (by omega)
  have c3:=fun v=>compact_c v 3 (Srt.sort (Po.vals f x)) (by omega)
  rw [hsl] at c3
  generalize Srt.comped (Srt.sort (Po.vals f x))=D2 at *
  generalize (Srt.comp (Srt.sort (Po.vals f x))).length=n2 at *
  generalize Srt.av (Srt.sort (Po.vals f x))=D1 at *
  generalize Srt.av (Po.vals f x)=D0 at *
  generalize (Po.vals f x).length=n0 at *
  have hok:=hx.l.ok
  have hpok:=hx.p.ok
  clear hv hsl
  obtain ⟨k,⟨pk,pf,pv,pl⟩,a,v,l⟩:=x
  simp only [po_cs,Po.T.l,Po.T.p,Pd.T.k,Pd.T.f,Pd.T.v,Pd.T.l] at *
  refine ncall_of Tryz.func26 rfl (by decide) ?_
  (repeat' (first|(with_reducible first|(refine hK _ _ ?_;clear hK K)|(refine hK _ ?_;clear hK K))|((with_reducible refine z25 ?_);intro K hK;(conv=>whnf))|(with_reducible refine z0 ?_)|((first|((with_reducible refine NH.mk ?s ?_);case s=>(and_intros<;>with_reducible rfl))|((with_reducible refine NCall.isF 55 ?_);refine NCall.subw [0] _ _ (c0) rfl (by decide) rfl ?_;rintro _ _ ⟨F1,w',hle,rfl,rfl⟩;refine ⟨Nat.le_of_ble_eq_true rfl,.sl 2 w' n0,rfl,?_⟩)|((with_reducible refine NCall.isF 56 ?_);refine NCall.subE [2] (c2 _) rfl (by decide) rfl rfl ?_)|((with_reducible refine NCall.isF 57 ?_);refine NCall.subE [2] (c3 _) rfl (by decide) rfl rfl ?_))<;>(conv=>whnf))|(with_reducible first|refine z3 ?_|refine z4 ?_|refine z8 ?_|refine z1 ?_|refine z2 ?_)|((with_reducible refine gR ?_);(refine z31 rfl ?_;intro K hK;(conv=>whnf)))|((with_reducible refine gF ?_);(refine z33 rfl ?_;intro K hK;(conv=>whnf)))|((intro _;skip)<;>(conv=>whnf))))
  all_goals exact ⟨F1,_,hle,rfl,MemFits.pick [0,2] (by decide) rfl⟩
 ·have hok:=((hm w hw).1.row (List.mem_cons_of_mem _ (List.mem_cons_self ..))).1
  rw [← hsl,← Srt.comped_len] at hok
  have hrow:=rowF_new (F:=F') (sz:=1) (enc:=Srt.V) hok (Srt.av_flat _) (fun x _=>rfl)
  obtain ⟨h1,h2⟩:=Srt.row_cut hrow
  rw [hv] at h1 h2
  exact ⟨_,_,by rw [hr];exact h2.symm,hm.trans (MemFits.freeze (m:=[])),_,_,hF.trans addF.old,h1,rfl,rfl⟩
namespace Tr
theorem alike_iff (f:Int) (a b:List C):alike f a b=true↔a.length=b.length∧∀ (k:Nat) (x y:C),a[k]?=some x→b[k]?=some y→free f x=free f y:=by
 unfold alike
 rw [decide_eq_true_eq]
 constructor
 ·intro h
  refine ⟨by simpa using congrArg List.length h,fun k x y hx hy=>?_⟩
  have:=congrArg (fun l=>l[k]?) h
  simpa [hx,hy] using this
 ·rintro ⟨h1,h2⟩
  apply List.ext_getElem?
  intro k
  rw [List.getElem?_map,List.getElem?_map]
  by_cases hk:k<a.length
  ·rw [List.getElem?_eq_getElem hk,List.getElem?_eq_getElem (by omega)]
   exact congrArg some (h2 k _ _ (List.getElem?_eq_getElem hk) (List.getElem?_eq_getElem (by omega)))
  ·rw [List.getElem?_eq_none (by omega),List.getElem?_eq_none (by omega)]
end Tr
theorem equalC_c (F:Heap) (f:Int) (v w:Value) (a b:List Tr.C) (hv:Tr.Row F v a) (hw:Tr.Row F w b) (ha:a.length≤4611686018427387904) (hb:b.length≤4611686018427387904) (g:FuncId) (captured:List AV)
  (hg:∀ x∈a,∀ y∈b,∀ A B,Po.SRow F A x.out→Po.SRow F B y.out→NCall Tryz.prog g ([.agg (Tr.cs x A),.agg (Tr.cs y B)]++captured) [hpB F] fun r m=>r = .bool (decide (Tr.free f x=Tr.free f y))∧m=[hpB F]) :
  NCall Tryz.prog 91 [.hs v a.length,.hs w b.length,.fn g [] captured] [hpB F] fun r m=>r = .bool (Tr.alike f a b)∧m=[hpB F]:=by
 refine NCall.fits (K:=fun r m=>r = .bool (Tr.alike f a b)∧MemFits m [hpB F]) ?_ fun r m' h=>⟨r,_,rfl,h.2,h.1,rfl⟩
 have hok:=hv.ok
 have hok2:=hw.ok
 have hs:=Tr.alike_iff f a b
 refine ncall_of Tryz.func91 rfl (by decide) ?_
 by_cases hl:a.length=b.length
 ·(repeat' (first|(with_reducible first|(refine hK _ _ ?_;clear hK K)|(refine hB ?_;clear hA hB A B)|(refine hK _ ?_;clear hK K))|((with_reducible refine z25 ?_);intro K hK;(conv=>whnf))|(with_reducible refine z0 ?_)|((first|with_reducible refine NIf.not_ ?_|((with_reducible refine NIf.decY ?s ?_);case s=>omega)|((with_reducible refine NH.mk ?s ?_);case s=>(and_intros<;>omega)))<;>(conv=>whnf))|(with_reducible first|refine z3 ?_|refine z4 ?_|refine z5 ?_|refine z6 ?_)|((with_reducible refine z29 ?_);intro A B hA hB;(conv=>whnf))|(with_reducible first|refine z1 ?_|refine z2 ?_)|((with_reducible refine gF ?_);(refine z33 rfl ?_;intro K hK;(conv=>whnf)))))
  refine st_auto (α:=Nat) (fun k=>k≤a.length∧∀ (j:Nat) (x y:Tr.C),j<k→a[j]?=some x→b[j]?=some y→Tr.free f x=Tr.free f y) (fun k=>[.keep,.keep,.keep,.keep,.keep,.keep,.drop,.drop,.drop,.drop,.keep,.keep,.keep,.keep,.keep,.keep,.keep,.set (.int .i64 k),.drop,.drop,.drop,.drop,.drop,.drop,.drop,.drop,.drop,.drop,.drop,.drop,.drop,.drop]) (fun _=>[]) (fun k=>a.length - k) 0 ⟨Nat.zero_le _,fun j x y hj=>absurd hj (Nat.not_lt_zero _)⟩ ?_ (MemFits.eq rfl) ?_
  ·repeat (first|exact FitsSl.nil|refine FitsSl.any ?_|refine FitsSl.cons (Fit1.int (by first | rfl | omega)) ?_|refine FitsSl.cons (Fit1.bool rfl) ?_|refine FitsSl.cons (Fit1.same (by intro h;cases h) (by with_reducible rfl)) ?_)
  (intro k ⟨hk,hgone⟩;intro K hK;(conv=>whnf);refine hK _ _ ?_;clear hK K)
  by_cases hlt:k<a.length
  ·have hx:a[k]?=some a[k]:=List.getElem?_eq_getElem hlt
   have hy:b[k]?=some (b[k]'(by omega)):=List.getElem?_eq_getElem (by omega)
   obtain ⟨A,cap,hA,c0,c1,c2,c3,c4,c5⟩:=hv.get hx
   obtain ⟨B,cap',hB,d0,d1,d2,d3,d4,d5⟩:=hw.get hy
   have c:=hg _ (List.mem_of_getElem? hx) _ (List.mem_of_getElem? hy) _ _ hA hB
   have hoA:=hA.ok
   have hoB:=hB.ok
   clear hg hA hB
   generalize a[k]=x at *
   generalize (b[k]'(by omega))=y at *
   generalize hq:decide (Tr.free f x=Tr.free f y)=q at *
   obtain ⟨⟨x0,x1,x2,x3,x4⟩,xo⟩:=x
   obtain ⟨⟨y0,y1,y2,y3,y4⟩,yo⟩:=y
   simp only [Tr.cs,List.cons_append,List.nil_append] at c c0 c1 c2 c3 c4 c5 d0 d1 d2 d3 d4 d5 hoA hoB
   cases q with
   | true =>
    (repeat' (first|(with_reducible first|(refine hK _ _ ?_;clear hK K)|(refine hA ?_;clear hA hB A B)|(refine hB ?_;clear hA hB A B))|((with_reducible refine z25 ?_);intro K hK;(conv=>whnf))|(with_reducible refine z0 ?_)|((first|((with_reducible refine NV.i64 ?s ?_);case s=>omega)|with_reducible refine NIf.not_ ?_|((with_reducible refine NIf.decY ?s ?_);case s=>omega)|((with_reducible refine NIf.yes ?s ?_);case s=>rfl)|(with_reducible first|refine NN.cast ?_|refine NN.keep ?_)|((with_reducible refine NH.mk ?s ?_);case s=>(and_intros<;>first|with_reducible rfl|((with_reducible refine gOnes ?_);rfl)|((with_reducible refine gLen ?_);rfl)|omega))|((with_reducible refine NCall.isF g ?_);refine NCall.subE [0] (c) rfl (by decide) rfl rfl ?_)|(with_reducible refine NLd.of (by with_reducible assumption) ?_))<;>(conv=>whnf))|(with_reducible first|refine z3 ?_|refine z4 ?_|refine z5 ?_|refine z6 ?_)|((with_reducible refine z29 ?_);intro A B hA hB;(conv=>whnf))|(with_reducible first|refine z1 ?_|refine z2 ?_|refine z9 ?_)|((intro _;skip)<;>(conv=>whnf))))
    refine st_round (k+1) ⟨hlt,fun j x' y' hj h1 h2=>?_⟩ (by omega) ?_ (MemFits.pre 1 rfl)
    ·by_cases e:j=k
     ·subst e
      rw [hx] at h1
      rw [hy] at h2
      injection h1 with h1
      injection h2 with h2
      rw [← h1,← h2];exact of_decide_eq_true hq
     ·exact hgone j x' y' (by omega) h1 h2
    ·repeat (first|exact FitsSl.nil|refine FitsSl.any ?_|refine FitsSl.cons (Fit1.int (by first | rfl | omega)) ?_|refine FitsSl.cons (Fit1.bool rfl) ?_|refine FitsSl.cons (Fit1.same (by intro h;cases h) (by with_reducible rfl)) ?_)
   | false =>
    have hne:Tr.alike f a b=false:=by
     cases h:Tr.alike f a b with
     | false=>rfl
     | true=>exact absurd ((hs.1 h).2 k _ _ hx hy) (of_decide_eq_false hq)
    rw [hne]
    (repeat' (first|(with_reducible first|(refine hK _ _ ?_;clear hK K)|(refine hA ?_;clear hA hB A B)|(refine hK _ ?_;clear hK K))|((with_reducible refine z25 ?_);intro K hK;(conv=>whnf))|(with_reducible refine z0 ?_)|((first|with_reducible refine NIf.not_ ?_|((with_reducible refine NIf.decY ?s ?_);case s=>omega)|((with_reducible refine NIf.no ?s ?_);case s=>rfl)|(with_reducible first|refine NN.cast ?_|refine NN.keep ?_)|((with_reducible refine NH.mk ?s ?_);case s=>(and_intros<;>first|with_reducible rfl|((with_reducible refine gOnes ?_);rfl)|((with_reducible refine gLen ?_);rfl)|omega))|((with_reducible refine NCall.isF g ?_);refine NCall.subE [0] (c) rfl (by decide) rfl rfl ?_)|(with_reducible refine NLd.of (by with_reducible assumption) ?_))<;>(conv=>whnf))|(with_reducible first|refine z3 ?_|refine z4 ?_|refine z5 ?_|refine z6 ?_|refine z8 ?_)|((with_reducible refine z29 ?_);intro A B hA hB;(conv=>whnf))|(with_reducible first|refine z1 ?_|refine z2 ?_|refine z12 ?_|refine z13 ?_|refine z20 ?_)|((with_reducible refine gR ?_);(refine z31 rfl ?_;intro K hK;(conv=>whnf)))|((intro _;skip)<;>(conv=>whnf))))
    all_goals exact ⟨rfl,MemFits.pre 1 rfl⟩
  ·have hy:Tr.alike f a b=true:=hs.2 ⟨hl,fun j x y h1 h2=>hgone j x y (by have:=(List.getElem?_eq_some_iff.1 h1).1;omega) h1 h2⟩
   rw [hy]
   (repeat' (first|(with_reducible first|(refine hK _ _ ?_;clear hK K)|(refine hB ?_;clear hA hB A B)|(refine hK _ ?_;clear hK K))|((with_reducible refine z25 ?_);intro K hK;(conv=>whnf))|(with_reducible refine z0 ?_)|(((with_reducible refine NIf.decN ?s ?_);case s=>omega)<;>(conv=>whnf))|(with_reducible first|refine z3 ?_|refine z4 ?_|refine z7 ?_|refine z8 ?_)|((with_reducible refine z29 ?_);intro A B hA hB;(conv=>whnf))|(with_reducible first|refine z1 ?_|refine z2 ?_|refine z10 ?_|refine z11 ?_|refine z19 ?_)|((with_reducible refine gR ?_);(refine z31 rfl ?_;intro K hK;(conv=>whnf)))))
   all_goals exact ⟨rfl,MemFits.pre 1 rfl⟩
 ·have hne:Tr.alike f a b=false:=by
   cases h:Tr.alike f a b with
   | false=>rfl
   | true=>exact (hl (hs.1 h).1).elim
  rw [hne]
  (repeat' (first|(with_reducible first|(refine hK _ _ ?_;clear hK K)|(refine hA ?_;clear hA hB A B)|(refine hK _ ?_;clear hK K))|((with_reducible refine z25 ?_);intro K hK;(conv=>whnf))|(with_reducible refine z0 ?_)|((first|with_reducible refine NIf.not_ ?_|((with_reducible refine NIf.decN ?s ?_);case s=>omega)|((with_reducible refine NH.mk ?s ?_);case s=>(and_intros<;>omega)))<;>(conv=>whnf))|(with_reducible first|refine z3 ?_|refine z4 ?_|refine z8 ?_)|((with_reducible refine z29 ?_);intro A B hA hB;(conv=>whnf))|(with_reducible first|refine z1 ?_|refine z2 ?_|refine z12 ?_)|((with_reducible refine gR ?_);(refine z31 rfl ?_;intro K hK;(conv=>whnf)))|((with_reducible refine gF ?_);(refine z33 rfl ?_;intro K hK;(conv=>whnf)))))
  all_goals exact ⟨rfl,MemFits.pre 1 rfl⟩
theorem alike1_c (F:Heap) (f:Int) (hf:Tr.ok f) (x y:Tr.C) (A B:Value) (hA:Po.SRow F A x.out) (hB:Po.SRow F B y.out) (ha:x.out.length≤1000) (hb:y.out.length≤1000) (b:Addr) (hc:F.c (b.add 0) (.int .i64 f)) :
  NCall Tryz.prog 92 [.agg (Tr.cs x A),.agg (Tr.cs y B),.hp b 0] [hpB F] fun r m=>r = .bool (decide (Tr.free f x=Tr.free f y))∧m=[hpB F]:=by
 refine NCall.fits (K:=fun r m=>r = .bool (decide (Tr.free f x=Tr.free f y))∧MemFits m [hpB F]) ?_ fun r m' h=>⟨r,_,rfl,h.2,h.1,rfl⟩
 have ce:=equals_c F A B x.out y.out hA hB (by omega) (by omega)
 have w1:=with31_h x.s f (-1) A x.out.length hf
 have w2:=with31_h y.s f (-1) B y.out.length hf
 have hoA:=hA.ok
 have hoB:=hB.ok
 have hfr:Tr.free f x=Tr.free f y↔Tr.withK f (-1) x.s=Tr.withK f (-1) y.s∧x.out=y.out:=by unfold Tr.free;simp only [Tr.C.mk.injEq]
 rw [show decide (Tr.free f x=Tr.free f y)=(decide (Tr.withK f (-1) x.s=Tr.withK f (-1) y.s)&&decide (x.out=y.out)) by simp [hfr]]
 clear hfr hA hB
 generalize Tr.withK f (-1) x.s=X at *
 generalize Tr.withK f (-1) y.s=Y at *
 obtain ⟨⟨x0,x1,x2,x3,x4⟩,xo⟩:=x
 obtain ⟨⟨y0,y1,y2,y3,y4⟩,yo⟩:=y
 simp only [Tr.cs] at *
 generalize decide (xo=yo)=q at *
 refine ncall_of Tryz.func92 rfl (by decide) ?_
 by_cases hXY:X=Y
 ·subst hXY
  obtain ⟨X0,X1,X2,X3,X4⟩:=X
  simp only at w1 w2
  (repeat' (first|(with_reducible first|(refine hK _ _ ?_;clear hK K)|(refine hK _ ?_;clear hK K))|((with_reducible first|refine z25 ?_|refine z26 ?_);intro K hK;(conv=>whnf))|(with_reducible refine z0 ?_)|((first|((with_reducible refine NIf.yes ?s ?_);case s=>(simp ;done))|(with_reducible refine NN.a5 ?_)|((with_reducible refine NH.mk ?s ?_);case s=>(and_intros<;>first|with_reducible rfl|((with_reducible refine gOnes ?_);rfl)|((with_reducible refine gLen ?_);rfl)|((with_reducible refine gKept ?_);exact rfl)))|((with_reducible refine NCall.isF 59 ?_);refine NCall.pureE (w1) ?_)|((with_reducible refine NCall.isF 59 ?_);refine NCall.pureE (w2) ?_)|((with_reducible refine NCall.isF 93 ?_);refine NCall.subE [0] (ce) rfl (by decide) rfl rfl ?_)|(with_reducible refine NLd.of (by with_reducible assumption) ?_))<;>(conv=>whnf))|(with_reducible refine st_ordSout ?_)|((with_reducible refine gNOK ?_);(first|(refine st_ordK1 rfl (by kernel_rfl) rfl ?_;intro K hK;(conv=>whnf))|refine st_ordK0 rfl (by kernel_rfl) ?_|refine st_ordKA rfl rfl (by kernel_rfl) (by intro h;cases h) ?_))|((with_reducible refine gNEK ?_);(first|(refine st_eachK ?_ ?_;(intro K hK;(conv=>whnf)))|exact st_eachK0))|((with_reducible refine gX ?_);(first|refine st_orderS [1,2] rfl rfl (by kernel_rfl) _ rfl ?_|(with_reducible first|refine z3 ?_|refine z4 ?_|refine z8 ?_)))|(with_reducible first|refine z1 ?_|refine z2 ?_)|((with_reducible refine gR ?_);(refine z31 rfl ?_;intro K hK;(conv=>whnf)))|((with_reducible refine gF ?_);(refine z33 rfl ?_;intro K hK;(conv=>whnf)))|((refine NFlat_iff.2 ⟨⟨?s1,?s2⟩,?_⟩;(case s1=>decide +kernel);(case s2=>decide +kernel))<;>(conv=>whnf))|((intro _;skip)<;>(conv=>whnf))))
  all_goals exact ⟨by simp,MemFits.pre 1 rfl⟩
 ·obtain ⟨X0,X1,X2,X3,X4⟩:=X
  obtain ⟨Y0,Y1,Y2,Y3,Y4⟩:=Y
  rw [decide_eq_false hXY]
  simp only at w1 w2
  by_cases hp:X0=Y0
  ·have hnb:(decide (X1=Y1)&&(decide (X2=Y2)&&(decide (X3=Y3)&&(decide (X4=Y4)&&true))))=false:=by
    refine Bool.eq_false_iff.2 fun h=>hXY ?_
    simp only [Bool.and_eq_true,decide_eq_true_eq,and_true] at h
    obtain ⟨rfl,rfl,rfl,rfl⟩:=h
    rw [hp]
   (repeat' (first|(with_reducible first|(refine hK _ _ ?_;clear hK K)|(refine hK _ ?_;clear hK K))|((with_reducible first|refine z25 ?_|refine z26 ?_);intro K hK;(conv=>whnf))|(with_reducible refine z0 ?_)|((first|((with_reducible refine NIf.decY ?s ?_);case s=>assumption)|((with_reducible refine NIf.no ?s ?_);case s=>assumption)|(with_reducible refine NN.a5 ?_)|((with_reducible refine NH.mk ?s ?_);case s=>(and_intros<;>first|with_reducible rfl|((with_reducible refine gOnes ?_);rfl)|((with_reducible refine gLen ?_);rfl)|((with_reducible refine gKept ?_);exact rfl)))|((with_reducible refine NCall.isF 59 ?_);refine NCall.pureE (w1) ?_)|((with_reducible refine NCall.isF 59 ?_);refine NCall.pureE (w2) ?_)|(with_reducible refine NLd.of (by with_reducible assumption) ?_))<;>(conv=>whnf))|(with_reducible refine st_ordSout ?_)|((with_reducible refine gNOK ?_);(first|(refine st_ordK1 rfl (by kernel_rfl) rfl ?_;intro K hK;(conv=>whnf))|refine st_ordK0 rfl (by kernel_rfl) ?_|refine st_ordKA rfl rfl (by kernel_rfl) (by intro h;cases h) ?_))|((with_reducible refine gNEK ?_);(first|(refine st_eachK ?_ ?_;(intro K hK;(conv=>whnf)))|exact st_eachK0))|((with_reducible refine gX ?_);(first|refine st_orderS [1,2] rfl rfl (by kernel_rfl) _ rfl ?_|(with_reducible first|refine z3 ?_|refine z4 ?_|refine z8 ?_)))|(with_reducible first|refine z1 ?_|refine z2 ?_)|((with_reducible refine gR ?_);(refine z31 rfl ?_;intro K hK;(conv=>whnf)))|((with_reducible refine gF ?_);(refine z33 rfl ?_;intro K hK;(conv=>whnf)))|((refine NFlat_iff.2 ⟨⟨?s1,?s2⟩,?_⟩;(case s1=>decide +kernel);(case s2=>decide +kernel))<;>(conv=>whnf))|((intro _;skip)<;>(conv=>whnf))))
   all_goals first | (exfalso;omega) | exact ⟨by simp,MemFits.pre 1 rfl⟩
  ·(repeat' (first|(with_reducible first|(refine hK _ _ ?_;clear hK K)|(refine hK _ ?_;clear hK K))|((with_reducible first|refine z25 ?_|refine z26 ?_);intro K hK;(conv=>whnf))|(with_reducible refine z0 ?_)|((first|((with_reducible refine NIf.decN ?s ?_);case s=>assumption)|((with_reducible refine NIf.no ?s ?_);case s=>rfl)|(with_reducible refine NN.a5 ?_)|((with_reducible refine NH.mk ?s ?_);case s=>(and_intros<;>first|with_reducible rfl|((with_reducible refine gOnes ?_);rfl)|((with_reducible refine gLen ?_);rfl)|((with_reducible refine gKept ?_);exact rfl)))|((with_reducible refine NCall.isF 59 ?_);refine NCall.pureE (w1) ?_)|((with_reducible refine NCall.isF 59 ?_);refine NCall.pureE (w2) ?_)|(with_reducible refine NLd.of (by with_reducible assumption) ?_))<;>(conv=>whnf))|(with_reducible refine st_ordSout ?_)|((with_reducible refine gNOK ?_);(first|(refine st_ordK1 rfl (by kernel_rfl) rfl ?_;intro K hK;(conv=>whnf))|refine st_ordK0 rfl (by kernel_rfl) ?_|refine st_ordKA rfl rfl (by kernel_rfl) (by intro h;cases h) ?_))|((with_reducible refine gNEK ?_);(first|(refine st_eachK ?_ ?_;(intro K hK;(conv=>whnf)))|exact st_eachK0))|((with_reducible refine gX ?_);(first|refine st_orderS [1,2] rfl rfl (by kernel_rfl) _ rfl ?_|(with_reducible first|refine z3 ?_|refine z4 ?_|refine z8 ?_)))|(with_reducible first|refine z1 ?_|refine z2 ?_)|((with_reducible refine gR ?_);(refine z31 rfl ?_;intro K hK;(conv=>whnf)))|((with_reducible refine gF ?_);(refine z33 rfl ?_;intro K hK;(conv=>whnf)))|((intro _;skip)<;>(conv=>whnf))))
   all_goals first | (exfalso;omega) | exact ⟨by simp,MemFits.pre 1 rfl⟩
theorem alike31_c (F:Heap) (f:Int) (hf:Tr.ok f) (v w:Value) (a b:List Tr.C) (hv:Tr.Row F v a) (hw:Tr.Row F w b) (ha:a.length≤4611686018427387904) (hb:b.length≤4611686018427387904) (ha2:∀ c∈a,c.out.length≤1000) (hb2:∀ c∈b,c.out.length≤1000) :
  NCall Tryz.prog 60 [.hs v a.length,.hs w b.length,.int .i64 f] [hpB F] fun r m=>r = .bool (Tr.alike f a b)∧m=[hpB F]:=by
 refine NCall.fits (K:=fun r m=>r = .bool (Tr.alike f a b)∧MemFits m [hpB F]) ?_ fun r m' h=>⟨r,_,rfl,h.2,h.1,rfl⟩
 have kE:∀ c:Nat,NCall Tryz.prog 91 [.hs v a.length,.hs w b.length,.fn 92 [] [.ptr 1 ⟨c,0,none⟩ 0]] [hpB F,⟨⟨c,0,none⟩,[.int .i64 f],.var 3⟩] fun r m=>r = .bool (Tr.alike f a b)∧m=[hpB F,⟨⟨c,0,none⟩,[.int .i64 f],.var 3⟩]:=fun c=>by
  have hnew:=addF.new (F:=F) (a:=⟨c,0,none⟩) (vs:=denL [.int .i64 f])
  obtain ⟨d0,_⟩:=hnew
  exact NCall.keep (equalC_c (addF F ⟨c,0,none⟩ (denL [.int .i64 f])) f v w a b (Tr.Row.mono addF.old hv) (Tr.Row.mono addF.old hw) ha hb 92 [.hp ⟨c,0,none⟩ 0] fun x hx y hy A B hA hB=>alike1_c _ f hf x y A B hA hB (ha2 x hx) (hb2 y hy) _ d0) rfl (MemFits.freezeVar (m:=[])) rfl fun r mL' h=>⟨r,rfl,h.1,rfl⟩
 have hok:=hv.ok
 have hok2:=hw.ok
 refine ncall_of Tryz.func60 rfl (by decide) ?_
 (repeat' (first|(with_reducible first|(refine hK _ _ ?_;clear hK K)|(refine hK _ ?_;clear hK K))|((with_reducible refine z25 ?_);intro K hK;(conv=>whnf))|(with_reducible refine z0 ?_)|(((with_reducible refine NCall.isF 91 ?_);refine NCall.subE [0,1] (kE _) rfl (by decide) rfl rfl ?_)<;>(conv=>whnf))|(with_reducible first|refine z3 ?_|refine z4 ?_|refine z8 ?_|refine z1 ?_|refine z2 ?_)|((with_reducible refine gR ?_);(refine z31 rfl ?_;intro K hK;(conv=>whnf)))|((with_reducible refine gF ?_);(refine z33 rfl ?_;intro K hK;(conv=>whnf)))|((intro _;skip)<;>(conv=>whnf))))
 all_goals exact ⟨rfl,MemFits.pre 1 rfl⟩
end Go.Proofs.YtaolcaggdddkpaaGreat
