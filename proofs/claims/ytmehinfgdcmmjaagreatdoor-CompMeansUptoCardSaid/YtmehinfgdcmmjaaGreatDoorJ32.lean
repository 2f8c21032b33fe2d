import Derived.Test.YtmehinfgdcmmjaaGreatDoorJ31
import Derived.Test.YtmehinfgdcmmjaaGreatDoorProg
import Derived.Test.YtmehinfgdcmmjaaGreatDoorJ5
namespace Go.Proofs.YtmehinfgdcmmjaaGreatDoor
open Go.Sx
set_option maxRecDepth 20000
set_option linter.unusedSimpArgs false
set_option linter.unusedVariables false
set_option linter.unusedVariables false
namespace Lx
theorem tw_idx (p:UInt8→Bool):∀ (t:List UInt8),(∀ k,k<(t.takeWhile p).length→k<t.length∧p (t.getD k 0)=true)∧((t.takeWhile p).length=t.length∨((t.takeWhile p).length<t.length∧p (t.getD (t.takeWhile p).length 0)=false))
  | []=>⟨fun k h=>by simp at h,.inl rfl⟩
  | c::t=>by
    obtain ⟨h1,h2⟩:=tw_idx p t
    by_cases hc:p c=true
    · rw [List.takeWhile_cons_of_pos hc]
      refine ⟨fun k hk=>?_,?_⟩
      · cases k with
        | zero=>exact ⟨by simp,by simpa using hc⟩
        | succ k =>
          simp only [List.length_cons] at hk ⊢
          obtain ⟨a,b⟩:=h1 k (by omega)
          exact ⟨by omega,by simpa using b⟩
      · simp only [List.length_cons]
        rcases h2 with h | ⟨h,h'⟩
        · exact .inl (by omega)
        · exact .inr ⟨by omega,by simpa using h'⟩
    · rw [List.takeWhile_cons_of_neg hc]
      exact ⟨fun k hk=>by simp at hk,.inr ⟨by simp,by simpa using hc⟩⟩
theorem getD_drop (l:List UInt8) (i k:Nat):(l.drop i).getD k 0=l.getD (i+k) 0:=by simp [List.getD]
def wl (p:UInt8→Bool) (s:List UInt8) (i:Nat):Nat:=((s.drop i).takeWhile p).length
theorem wl_le (p:UInt8→Bool) (s:List UInt8) (i:Nat) (hi:i≤s.length):i+wl p s i≤s.length:=by
  have:=congrArg List.length (List.takeWhile_append_dropWhile (p:=p) (l:=s.drop i))
  simp only [List.length_append,List.length_drop] at this
  unfold wl
  omega
end Lx
def LB (a:Addr) (s:List UInt8) (i:Nat):Blk:=⟨a,[.str s,.int .i64 i],.var 242⟩
set_option maxHeartbeats 1000000 in
theorem while_c (f:FuncId) (p:UInt8→Bool) (hf:∀ c:UInt8,NCall Tryz.prog f [.int .u8 c.toNat] [] fun r _=>r = .bool (p c)) (a:Addr) (tx:List UInt8) (i:Nat) (hi:i≤tx.length) (hs:tx.length≤10000) :
    NCall Tryz.prog 208 [.ptr 0 a 0,.fn f [] []] [LB a tx i] fun r m=>r = .str ((tx.drop i).takeWhile p)∧m=[LB a tx (i+Lx.wl p tx i)]:=by
  obtain ⟨h1,h2⟩:=Lx.tw_idx p (tx.drop i)
  have hle:=Lx.wl_le p tx i hi
  have ht:(tx.drop i).take (Lx.wl p tx i)=(tx.drop i).takeWhile p:=(Lx.tw_take _ _).1
  have h1':∀ j,i≤j→j<i+Lx.wl p tx i→p (tx.getD j 0)=true:=fun j hj hj2=>by
    have:=(h1 (j - i) (by unfold Lx.wl at hj2;omega)).2
    rw [Lx.getD_drop,show i+(j - i)=j by omega] at this
    exact this
  have h2':i+Lx.wl p tx i=tx.length∨(i+Lx.wl p tx i<tx.length∧p (tx.getD (i+Lx.wl p tx i) 0)=false):=by
    rcases h2 with h | ⟨h,h'⟩
    · left;rw [List.length_drop] at h;unfold Lx.wl;omega
    · right
      rw [List.length_drop] at h
      rw [Lx.getD_drop] at h'
      exact ⟨by unfold Lx.wl;omega,h'⟩
  clear h1 h2
  generalize Lx.wl p tx i=w at *
  generalize (tx.drop i).takeWhile p=res at *
  refine ncall_of Tryz.func208 rfl (by decide) ?_
  unfold LB
  repeat' first|(refine sxZ ?_;try clear hK K)|refine sxW ?_ ?_<;>intro _|(intro K hK _;(conv=>whnf))
  refine st_auto (α:=Nat) (fun j=>i≤j∧j≤i+w) (fun j=>[.keep,.keep,.keep,.keep,.keep,.keep,.keep,.keep,.keep,.keep,.drop,.drop,.drop,.drop,.drop,.drop,.drop,.drop,.drop,.drop,.drop,.drop,.drop,.drop,.drop,.drop,.drop,.drop,.drop,.drop,.drop,.drop,.drop,.drop,.drop,.drop,.drop,.drop,.drop,.drop,.keep,.keep,.keep,.keep,.keep,.keep,.keep,.keep,.keep,.keep]) (fun j=>[.cells [.str tx,.int .i64 j]]) (fun j=>i+w - j) i ⟨Nat.le_refl _,by omega⟩ ?_ ?_ ?_
  · exact fitsGo
  · exact MemFits.eq rfl
  (intro j ⟨hj1,hj2⟩;intro K hK;(conv=>whnf);refine hK _ _ ?_;clear hK K)
  by_cases hlt:j<i+w
  · have hp:=h1' j hj1 hlt
    have hc:=hf (tx.getD j 0)
    rw [hp] at hc
    repeat' first|((try intro K hK);(with_reducible refine gQ ?_);refine NCallQ.pureEq hc ?_;(conv=>whnf))|(refine sxZ ?_;try clear hK K)|refine sxW ?_ ?_<;>intro _|(intro K hK _;(conv=>whnf))
    refine st_round (j+1) ⟨by omega,by omega⟩ (by omega) ?_ (MemFits.eq rfl)
    exact fitsGo
  · have e:j=i+w:=by omega
    subst e
    have e2:i+w - i=w:=by omega
    have hns:(tx.drop i).take (i+w - i)=res:=by rw [e2,ht]
    rcases h2' with h | ⟨h,hp⟩
    · (repeat' (first|(with_reducible first|(refine hK _ _ ?_;clear hK K)|(refine hA ?_;clear hA hB A B)|(refine hB ?_;clear hA hB A B)|(refine hK _ ?_;clear hK K))|((with_reducible refine NS.eq (hns) ?_)<;>(conv=>whnf))|refine sxEA ?_|refine sxSA ?_|((with_reducible refine gX ?_);refine z34 (by kernel_rfl) (by kernel_rfl) ?_)|(refine sxIA ?_;intro K hK;(conv=>whnf))|(refine sxCA ?_;intro A B hA hB;(conv=>whnf))|((with_reducible first|refine NIf.dec (fun _=>?_) (fun _=>?_)|refine NIf.both (fun _=>?_) (fun _=>?_))<;>(conv=>whnf))|((intro _;skip)<;>(conv=>whnf))))
      all_goals exact ⟨rfl,rfl⟩
    · have hc:=hf (tx.getD (i+w) 0)
      rw [hp] at hc
      (repeat' (first|(with_reducible first|(refine hK _ _ ?_;clear hK K)|(refine hA ?_;clear hA hB A B)|(refine hB ?_;clear hA hB A B)|(refine hK _ ?_;clear hK K))|((first|((with_reducible refine gQ ?_);refine NCallQ.pureEq (hc) ?_)|(with_reducible refine NS.eq (hns) ?_))<;>(conv=>whnf))|refine sxEA ?_|refine sxSA ?_|((with_reducible refine gX ?_);refine z34 (by kernel_rfl) (by kernel_rfl) ?_)|(refine sxIA ?_;intro K hK;(conv=>whnf))|(refine sxCA ?_;intro A B hA hB;(conv=>whnf))|((with_reducible first|refine NIf.dec (fun _=>?_) (fun _=>?_)|refine NIf.both (fun _=>?_) (fun _=>?_))<;>(conv=>whnf))|((intro _;skip)<;>(conv=>whnf))))
      all_goals exact ⟨rfl,rfl⟩
theorem sp_dec (c:UInt8):Lx.isSp c=decide (c.toNat=32∨c.toNat=9∨c.toNat=10):=by
  rw [Bool.eq_iff_iff];unfold Lx.isSp
  simp only [Bool.or_eq_true,beq_iff_eq,decide_eq_true_eq,← UInt8.toNat_inj,or_assoc]
  rfl
theorem l_dec (c:UInt8):Lx.isL c=decide (97≤c.toNat∧c.toNat≤122):=by
  rw [Bool.eq_iff_iff];unfold Lx.isL
  simp only [Bool.and_eq_true,decide_eq_true_eq]
theorem d_dec (c:UInt8):Lx.isD c=decide (48≤c.toNat∧c.toNat≤57):=by
  rw [Bool.eq_iff_iff];unfold Lx.isD
  simp only [Bool.and_eq_true,decide_eq_true_eq]
theorem nl_dec (c:UInt8):Lx.notNl c=decide (c.toNat≠10):=by
  rw [Bool.eq_iff_iff];unfold Lx.notNl
  simp only [Bool.not_eq_true',beq_eq_false_iff_ne,decide_eq_true_eq,ne_eq,← UInt8.toNat_inj]
  rfl
theorem space_c (c:UInt8):NCall Tryz.prog 209 [.int .u8 c.toNat] [] fun r _=>r = .bool (Lx.isSp c):=by
  rw [sp_dec]
  refine ncall_of Tryz.func209 rfl (by decide) ?_
  repeat' first|(refine sxZ ?_;try clear hK K)|refine sxW ?_ ?_<;>intro _|(intro K hK _;(conv=>whnf))
  all_goals first
    | exact boolT (by omega)
    | exact boolF (by omega)
    | exact boolIff (by simp only [decide_eq_true_eq];omega)
theorem letter_c (c:UInt8):NCall Tryz.prog 211 [.int .u8 c.toNat] [] fun r _=>r = .bool (Lx.isL c):=by
  rw [l_dec]
  refine ncall_of Tryz.func211 rfl (by decide) ?_
  repeat' first|(refine sxZ ?_;try clear hK K)|refine sxW ?_ ?_<;>intro _|(intro K hK _;(conv=>whnf))
  all_goals first
    | exact boolT (by omega)
    | exact boolF (by omega)
    | exact boolIff (by simp only [decide_eq_true_eq];omega)
theorem digit_c (c:UInt8):NCall Tryz.prog 212 [.int .u8 c.toNat] [] fun r _=>r = .bool (Lx.isD c):=by
  rw [d_dec]
  refine ncall_of Tryz.func212 rfl (by decide) ?_
  repeat' first|(refine sxZ ?_;try clear hK K)|refine sxW ?_ ?_<;>intro _|(intro K hK _;(conv=>whnf))
  all_goals first
    | exact boolT (by omega)
    | exact boolF (by omega)
    | exact boolIff (by simp only [decide_eq_true_eq];omega)
theorem notnl_c (c:UInt8):NCall Tryz.prog 210 [.int .u8 c.toNat] [] fun r _=>r = .bool (Lx.notNl c):=by
  rw [nl_dec]
  refine ncall_of Tryz.func210 rfl (by decide) ?_
  repeat' first|(refine sxZ ?_;try clear hK K)|refine sxW ?_ ?_<;>intro _|(intro K hK _;(conv=>whnf))
  all_goals first
    | exact boolT (by omega)
    | exact boolF (by omega)
    | exact boolIff (by simp only [Bool.not_eq_true',decide_eq_false_iff_not];omega)
end Go.Proofs.YtmehinfgdcmmjaaGreatDoor
namespace Go.Proofs.YtmehinfgdcmmjaaGreatDoor
open Go.Sx
set_option maxRecDepth 20000
set_option linter.unusedSimpArgs false
set_option linter.unusedVariables false
set_option linter.unusedVariables false
namespace Lx
def sk (tx:List UInt8) (i:Nat):Nat:=tx.length - (skip (tx.drop i)).length
theorem drop_wl (p:UInt8→Bool) (tx:List UInt8) (i:Nat):(tx.drop i).dropWhile p=tx.drop (i+wl p tx i):=by
  have:=(tw_take p (tx.drop i)).2
  rw [List.drop_drop] at this
  exact this.symm
theorem drop_getD (tx:List UInt8) (i:Nat) (hi:i<tx.length):tx.drop i=tx.getD i 0::tx.drop (i+1):=by
  rw [List.drop_eq_getElem_cons hi]
  simp [List.getD,hi]
end Lx
set_option maxHeartbeats 1000000 in
theorem skip_c (a:Addr) (tx:List UInt8) (i:Nat) (hi:i≤tx.length) (hs:tx.length≤10000) :
    NCall Tryz.prog 170 [.ptr 0 a 0] [LB a tx i] fun r m=>r = .tup []∧m=[LB a tx (Lx.sk tx i)]:=by
  refine ncall_of Tryz.func170 rfl (by decide) ?_
  repeat' first|(refine sxZ ?_;try clear hK K)|refine sxW ?_ ?_<;>intro _|(intro K hK _;(conv=>whnf))
  refine st_auto (α:=Nat) (fun j=>j≤tx.length∧Lx.skip (tx.drop j)=Lx.skip (tx.drop i)) (fun j=>[.keep,.keep,.drop,.drop,.drop,.drop,.drop,.drop,.drop,.drop,.drop,.drop,.drop,.drop,.drop,.drop,.drop,.drop,.drop,.drop,.drop,.drop,.drop,.drop,.drop,.drop,.drop,.drop]) (fun j=>[.set (LB a tx j)]) (fun j=>tx.length - j) i ⟨hi,rfl⟩ ?_ ?_ ?_
  · exact fitsGo
  · exact MemFits.eq rfl
  (intro j ⟨hj,hjs⟩;intro K hK;(conv=>whnf);refine hK _ _ ?_;clear hK K)
  have hw1:=while_c 209 Lx.isSp space_c a tx j hj hs
  have hle:=Lx.wl_le Lx.isSp tx j hj
  have hd:=Lx.drop_wl Lx.isSp tx j
  have hj1:j≤j+Lx.wl Lx.isSp tx j:=Nat.le_add_right _ _
  generalize j+Lx.wl Lx.isSp tx j=j1 at *
  by_cases h1:j1=tx.length
  · have e:Lx.sk tx i=j1:=by
      unfold Lx.sk
      rw [← hjs,Lx.skip_nil (by rw [hd,h1];simp)]
      simp [h1]
    rw [e]
    repeat' first|(intro K hK;(with_reducible refine gC ?_);refine cS [0] hw1 ?_)|(refine sxZ ?_;try clear hK K)|refine sxW ?_ ?_<;>intro _|(intro K hK _;(conv=>whnf))
    all_goals exact ⟨rfl,rfl⟩
  · have hlt:j1<tx.length:=by omega
    have hg:=Lx.drop_getD tx j1 hlt
    by_cases h2:(tx.getD j1 0)=35
    · have hw2:=while_c 210 Lx.notNl notnl_c a tx j1 (by omega) hs
      have hle2:=Lx.wl_le Lx.notNl tx j1 (by omega)
      have hd2:=Lx.drop_wl Lx.notNl tx j1
      have hn:(tx.getD j1 0).toNat=35:=by rw [h2];rfl
      have hpos:j1<j1+Lx.wl Lx.notNl tx j1:=by
        unfold Lx.wl
        rw [hg,h2,List.takeWhile_cons_of_pos (by decide)]
        simp
      have hst:Lx.skip (tx.drop (j1+Lx.wl Lx.notNl tx j1))=Lx.skip (tx.drop i):=by
        rw [← hjs,Lx.skip_cons (hd.trans hg),if_pos h2,← hd2,hg,h2,List.dropWhile_cons_of_pos (by decide)]
      generalize j1+Lx.wl Lx.notNl tx j1=j2 at *
      repeat' first|(intro K hK;(with_reducible refine gC ?_);first|refine cS [0] hw1 ?_|refine cS [0] hw2 ?_)|(refine sxZ ?_;try clear hK K)|refine sxW ?_ ?_<;>intro _|(intro K hK _;(conv=>whnf))
      all_goals first
        | (refine st_round j2 ⟨hle2,hst⟩ (by omega) ?_ (MemFits.eq rfl)
           exact fitsGo
          )
    · have hn:(tx.getD j1 0).toNat≠35:=fun e=>h2 (UInt8.toNat_inj.1 (by rw [e];rfl))
      have e:Lx.sk tx i=j1:=by
        unfold Lx.sk
        rw [← hjs,Lx.skip_cons (hd.trans hg),if_neg h2,← hg,List.length_drop]
        omega
      rw [e]
      repeat' first|(intro K hK;(with_reducible refine gC ?_);refine cS [0] hw1 ?_)|(refine sxZ ?_;try clear hK K)|refine sxW ?_ ?_<;>intro _|(intro K hK _;(conv=>whnf))
      all_goals exact ⟨rfl,rfl⟩
def tokAV (k n:Int) (t:List UInt8) (at_:Int):AV:=.agg [.int .i64 k,.int .i64 n,.str t,.int .i64 at_]
theorem u8_sub (c:UInt8) (h:Lx.isD c=true):IntKind.u8.wrap ((c.toNat:Int) - 48)=((c.toNat - 48:Nat):Int):=by
  rw [d_dec] at h
  have:=of_decide_eq_true h
  rw [wrap_u8];omega
theorem num_lt:∀ (d:List UInt8),d.length≤3→(∀ c∈d,Lx.isD c=true)→Lx.num d≤999:=by
  intro d hl hd
  have h9:∀ c∈d,c.toNat - 48≤9:=fun c hc=>by
    have:=hd c hc
    rw [d_dec] at this
    have:=of_decide_eq_true this
    omega
  match d with
  | []=>simp [Lx.num]
  | [a]=>have:=h9 a (by simp);simp [Lx.num];omega
  | [a,b]=>have:=h9 a (by simp);have:=h9 b (by simp);simp [Lx.num];omega
  | [a,b,c]=>have:=h9 a (by simp);have:=h9 b (by simp);have:=h9 c (by simp);simp [Lx.num];omega
  | a::b::c::e::r=>simp at hl
theorem num_take (d:List UInt8) (k:Nat) (hk:k<d.length):Lx.num (d.take (k+1))=10*Lx.num (d.take k)+((d.getD k 0).toNat - 48):=by
  have e:d.take (k+1)=d.take k++[d.getD k 0]:=by
    rw [List.take_add_one]
    simp [List.getD,hk]
  unfold Lx.num
  rw [e,List.foldl_append]
  rfl
def Lx.numOk (d:List UInt8):Prop:=¬ (3<d.length∨(1<d.length∧d.getD 0 0=48))
instance (d:List UInt8):Decidable (Lx.numOk d):=by unfold Lx.numOk;infer_instance
set_option maxHeartbeats 1000000 in
theorem number_c (a:Addr) (tx:List UInt8) (i:Nat) (hi:i≤tx.length) (hs:tx.length≤10000) (d:List UInt8) (hd:(tx.drop i).takeWhile Lx.isD=d) (hne:d≠[]) :
    NCall Tryz.prog 213 [.ptr 0 a 0] [LB a tx i] fun r m=>r = .tup [if Lx.numOk d then tokAV 2 (Lx.num d) [] i else tokAV 0 0 [] i,.bool (decide (Lx.numOk d))]∧MemFits m [LB a tx (i+d.length)]:=by
  have hall:∀ c∈d,Lx.isD c=true:=fun c hc=>by rw [← hd] at hc;exact Lx.tw_all hc
  have hw:=while_c 212 Lx.isD digit_c a tx i hi hs
  have hwl:Lx.wl Lx.isD tx i=d.length:=by unfold Lx.wl;rw [hd]
  rw [hwl,hd] at hw
  have hl1:1≤d.length:=by cases d with | nil=>exact (hne rfl).elim | cons x d=>simp
  clear hd hwl
  refine ncall_of Tryz.func213 rfl (by decide) ?_
  by_cases h:Lx.numOk d
  · rw [if_pos h,decide_eq_true h]
    have hl3:d.length≤3:=by
      by_cases e:3<d.length
      · exact (h (.inl e)).elim
      · omega
    have hz:¬ (1<d.length∧(d.getD 0 0).toNat=48):=fun e=>h (.inr ⟨e.1,UInt8.toNat_inj.1 (by rw [e.2];rfl)⟩)
    have hk:=num_lt
    unfold tokAV
    by_cases h1:1<d.length
    · have hz0:(d.getD 0 0).toNat≠48:=fun e=>hz ⟨h1,e⟩
      repeat' first|(intro K hK;(with_reducible refine gC ?_);refine cS [0] hw ?_)|(refine sxZ ?_;try clear hK K)|refine sxW ?_ ?_<;>intro _|(intro K hK _;(conv=>whnf))
      all_goals
        refine st_auto (α:=Nat) (fun k=>k≤d.length) (fun k=>[.keep,.keep,.keep,.keep,.keep,.keep,.set (.int .i64 (Lx.num (d.take k))),.drop,.keep,.keep,.keep,.keep,.keep,.keep,.keep,.keep,.keep,.keep,.keep,.keep,.keep,.keep,.keep,.keep,.keep,.keep,.keep,.keep,.keep,.keep,.keep,.set (.int .i64 k),.drop,.drop,.drop,.drop,.drop,.drop,.drop,.drop,.drop,.drop,.drop,.keep,.keep,.keep]) (fun _=>[]) (fun k=>d.length - k) 0 (Nat.zero_le _) ?_ (MemFits.eq rfl) ?_
        · exact fitsGo
        (intro k hk;intro K hK;(conv=>whnf);refine hK _ _ ?_;clear hK K)
        by_cases hlt:k<d.length
        · have hn:=num_take d k hlt
          have hb:=num_lt (d.take k) (by rw [List.length_take];omega) (fun c hc=>hall c (List.mem_of_mem_take hc))
          have hdk:Lx.isD (d.getD k 0)=true:=hall _ (by simp [List.getD,hlt])
          have hsub:=u8_sub _ hdk
          rw [d_dec] at hdk
          have hdk:=of_decide_eq_true hdk
          generalize Lx.num (d.take k)=nk at *
          have hcv:IntKind.i64.wrap (((d.getD k 0).toNat - 48:Nat):Int)=(((d.getD k 0).toNat - 48:Nat):Int):=wrap_i64 (by omega) (by omega)
          (repeat' (first|(with_reducible first|(refine hK _ _ ?_;clear hK K)|(refine hA ?_;clear hA hB A B)|(refine hB ?_;clear hA hB A B)|(refine hK _ ?_;clear hK K))|((with_reducible first|refine NV.eq (hsub) ?_|refine NV.eq (hcv) ?_)<;>(conv=>whnf))|refine sxEA ?_|refine sxSA ?_|((with_reducible refine gX ?_);refine z34 (by kernel_rfl) (by kernel_rfl) ?_)|(refine sxIA ?_;intro K hK;(conv=>whnf))|(refine sxCA ?_;intro A B hA hB;(conv=>whnf))|((with_reducible first|refine NIf.dec (fun _=>?_) (fun _=>?_)|refine NIf.both (fun _=>?_) (fun _=>?_))<;>(conv=>whnf))|((intro _;skip)<;>(conv=>whnf))))
          refine st_round (k+1) hlt (by omega) ?_ (MemFits.eq rfl)
          repeat (first | exact FitsSl.nil | refine FitsSl.any ?_ | refine FitsSl.cons (Fit1.int (by  first | rfl | (rw [hn];omega) | omega)) ?_ | refine FitsSl.cons (Fit1.int (by first | rfl | omega)) ?_ | refine FitsSl.cons (Fit1.bool rfl) ?_ | refine FitsSl.cons (Fit1.str rfl) ?_ | refine FitsSl.cons (Fit1.same (by intro h;cases h) (by with_reducible rfl)) ?_ | refine FitsSl.cons Fit1.nil_sl ?_ | refine FitsSl.cons (Fit1.hs rfl) ?_ | refine FitsSl.cons (Fit1.hp rfl rfl) ?_ | refine FitsSl.cons (Fit1.sl rfl) ?_ | refine FitsSl.cons (Fit1.ptr rfl rfl) ?_ | refine FitsSl.cons Fit1.raw ?_)
        · have e:k=d.length:=by omega
          subst e
          rw [List.take_length]
          repeat' first|(refine sxZ ?_;try clear hK K)|refine sxW ?_ ?_<;>intro _|(intro K hK _;(conv=>whnf))
          all_goals exact ⟨rfl,MemFits.drop [_] [_]⟩
    · repeat' first|(intro K hK;(with_reducible refine gC ?_);refine cS [0] hw ?_)|(refine sxZ ?_;try clear hK K)|refine sxW ?_ ?_<;>intro _|(intro K hK _;(conv=>whnf))
      all_goals
        refine st_auto (α:=Nat) (fun k=>k≤d.length) (fun k=>[.keep,.keep,.keep,.keep,.keep,.keep,.set (.int .i64 (Lx.num (d.take k))),.drop,.keep,.keep,.keep,.keep,.keep,.keep,.keep,.keep,.keep,.keep,.keep,.keep,.keep,.keep,.keep,.keep,.keep,.keep,.keep,.keep,.keep,.keep,.keep,.set (.int .i64 k),.drop,.drop,.drop,.drop,.drop,.drop,.drop,.drop,.drop,.drop,.drop,.keep,.keep,.keep]) (fun _=>[]) (fun k=>d.length - k) 0 (Nat.zero_le _) ?_ (MemFits.eq rfl) ?_
        · exact fitsGo
        (intro k hk;intro K hK;(conv=>whnf);refine hK _ _ ?_;clear hK K)
        by_cases hlt:k<d.length
        · have hn:=num_take d k hlt
          have hb:=num_lt (d.take k) (by rw [List.length_take];omega) (fun c hc=>hall c (List.mem_of_mem_take hc))
          have hdk:Lx.isD (d.getD k 0)=true:=hall _ (by simp [List.getD,hlt])
          have hsub:=u8_sub _ hdk
          rw [d_dec] at hdk
          have hdk:=of_decide_eq_true hdk
          generalize Lx.num (d.take k)=nk at *
          have hcv:IntKind.i64.wrap (((d.getD k 0).toNat - 48:Nat):Int)=(((d.getD k 0).toNat - 48:Nat):Int):=wrap_i64 (by omega) (by omega)
          (repeat' (first|(with_reducible first|(refine hK _ _ ?_;clear hK K)|(refine hA ?_;clear hA hB A B)|(refine hB ?_;clear hA hB A B)|(refine hK _ ?_;clear hK K))|((with_reducible first|refine NV.eq (hsub) ?_|refine NV.eq (hcv) ?_)<;>(conv=>whnf))|refine sxEA ?_|refine sxSA ?_|((with_reducible refine gX ?_);refine z34 (by kernel_rfl) (by kernel_rfl) ?_)|(refine sxIA ?_;intro K hK;(conv=>whnf))|(refine sxCA ?_;intro A B hA hB;(conv=>whnf))|((with_reducible first|refine NIf.dec (fun _=>?_) (fun _=>?_)|refine NIf.both (fun _=>?_) (fun _=>?_))<;>(conv=>whnf))|((intro _;skip)<;>(conv=>whnf))))
          refine st_round (k+1) hlt (by omega) ?_ (MemFits.eq rfl)
          repeat (first | exact FitsSl.nil | refine FitsSl.any ?_ | refine FitsSl.cons (Fit1.int (by  first | rfl | (rw [hn];omega) | omega)) ?_ | refine FitsSl.cons (Fit1.int (by first | rfl | omega)) ?_ | refine FitsSl.cons (Fit1.bool rfl) ?_ | refine FitsSl.cons (Fit1.str rfl) ?_ | refine FitsSl.cons (Fit1.same (by intro h;cases h) (by with_reducible rfl)) ?_ | refine FitsSl.cons Fit1.nil_sl ?_ | refine FitsSl.cons (Fit1.hs rfl) ?_ | refine FitsSl.cons (Fit1.hp rfl rfl) ?_ | refine FitsSl.cons (Fit1.sl rfl) ?_ | refine FitsSl.cons (Fit1.ptr rfl rfl) ?_ | refine FitsSl.cons Fit1.raw ?_)
        · have e:k=d.length:=by omega
          subst e
          rw [List.take_length]
          repeat' first|(refine sxZ ?_;try clear hK K)|refine sxW ?_ ?_<;>intro _|(intro K hK _;(conv=>whnf))
          all_goals exact ⟨rfl,MemFits.drop [_] [_]⟩
  · rw [if_neg h,decide_eq_false h]
    unfold tokAV
    have h':3<d.length∨(1<d.length∧(d.getD 0 0).toNat=48):=by
      by_cases e:3<d.length
      · exact .inl e
      · by_cases e2:1<d.length∧d.getD 0 0=48
        · exact .inr ⟨e2.1,by rw [e2.2];rfl⟩
        · exact (h (fun q=>q.elim e e2)).elim
    repeat' first|(intro K hK;(with_reducible refine gC ?_);refine cS [0] hw ?_)|(refine sxZ ?_;try clear hK K)|refine sxW ?_ ?_<;>intro _|(intro K hK _;(conv=>whnf))
    all_goals first
      | exact ⟨rfl,MemFits.drop [_] [_]⟩
      | (exfalso;omega)
end Go.Proofs.YtmehinfgdcmmjaaGreatDoor
namespace Go.Proofs.YtmehinfgdcmmjaaGreatDoor
open Go.Sx
set_option maxRecDepth 20000
set_option linter.unusedSimpArgs false
set_option linter.unusedVariables false
set_option linter.unusedVariables false
theorem lprefix_c (t:List UInt8) (ht:t.length≤10000):NCall Tryz.prog 234 [.str t,.str [58,61]] [] fun r _=>r = .bool (decide (t.take 2=[58,61])):=by
  refine ncall_of Tryz.func234 rfl (by decide) ?_
  by_cases h:2≤t.length
  · (repeat' (first|(with_reducible first|(refine hK _ _ ?_;clear hK K)|(refine hA ?_;clear hA hB A B)|(refine hB ?_;clear hA hB A B)|(refine hK _ ?_;clear hK K))|(((with_reducible refine NN.eq (n:=2) ?side ?_);case side=>omega)<;>(conv=>whnf))|refine sxEA ?_|refine sxSA ?_|((with_reducible refine gX ?_);refine z34 (by kernel_rfl) (by kernel_rfl) ?_)|(refine sxIA ?_;intro K hK;(conv=>whnf))|(refine sxCA ?_;intro A B hA hB;(conv=>whnf))|((with_reducible first|refine NIf.dec (fun _=>?_) (fun _=>?_)|refine NIf.both (fun _=>?_) (fun _=>?_))<;>(conv=>whnf))|((intro _;skip)<;>(conv=>whnf))))
    all_goals first | rfl | (exfalso;simp only [List.length_cons,List.length_nil] at *;omega)
  · have hn:t.take 2≠[58,61]:=fun e=>by
      have:=congrArg List.length e
      rw [List.length_take] at this
      simp at this
      omega
    repeat' first|(refine sxZ ?_;try clear hK K)|refine sxW ?_ ?_<;>intro _|(intro K hK _;(conv=>whnf))
    all_goals first | exact boolF hn | (exfalso;simp only [List.length_cons,List.length_nil] at *;omega)
theorem prefix_c (t:List UInt8) (ht:t.length≤10000):NCall Tryz.prog 214 [.str t,.str [58,61]] [] fun r _=>r = .bool (decide (t.take 2=[58,61])):=by
  have h:=lprefix_c t ht
  refine ncall_of Tryz.func214 rfl (by decide) ?_
  repeat' first|(intro K hK;(with_reducible refine gC ?_);refine cP h ?_)|(refine sxZ ?_;try clear hK K)|refine sxW ?_ ?_<;>intro _|(intro K hK _;(conv=>whnf))
  all_goals rfl
theorem index_dec:∀ n:Nat,n<256→(0≤Lib.indexByte [40,41,59,124,61] n.toUInt8↔Lx.isS n.toUInt8=true):=by decide +kernel
theorem index_c (c:UInt8):NCall Tryz.prog 215 [.str [40,41,59,124,61],.int .u8 c.toNat] [] fun r _=>∃ j:Int,r = .int .i64 j∧(0≤j↔Lx.isS c=true):=by
  have hc:=index_dec c.toNat c.toNat_lt
  have e:c.toNat.toUInt8=c:=by simp
  rw [e] at hc
  refine (ncall_below (r:=.int .i64 (Lib.indexByte [40,41,59,124,61] c)) (Go.Sx.enters_of Tryz.func215 rfl (by decide)) fun w hw=>?_).mono fun r m h=>⟨_,h.1,hc⟩
  refine (Tryz.strings_IndexByte ⟨#[40,41,59,124,61]⟩ c.toNat w).mono fun e' w' ⟨h1,h2⟩=>?_
  subst h2
  refine ⟨?_,rfl,rfl,rfl,Nat.le_refl _,fun _ _=>rfl⟩
  rw [h1,Int.toNat_natCast,e]
  rfl
theorem drop2 (tx:List UInt8) (i:Nat):((tx.drop i).take 2=[58,61])↔(i<tx.length∧tx.getD i 0=58∧(tx.drop (i+1)).head?=some 61):=by
  by_cases h:i<tx.length
  · rw [Lx.drop_getD tx i h]
    cases hr:tx.drop (i+1) with
    | nil=>simp
    | cons d r=>simp [h]
  · rw [List.drop_eq_nil_of_le (by omega)]
    simp;omega
set_option maxHeartbeats 2000000 in
theorem next_c (a:Addr) (tx:List UInt8) (i:Nat) (hi:i<tx.length) (hs:tx.length≤10000) :
    NCall Tryz.prog 171 [.ptr 0 a 0] [LB a tx i] fun r m =>
      (∀ b n,Lx.nextB (tx.drop i)=some (b,n)→r = .tup [tokAV b.k b.n b.s i,.bool true]∧MemFits m [LB a tx (i+n)]) ∧
      (Lx.nextB (tx.drop i)=none→r = .tup [tokAV 0 0 [] i,.bool false]∧∃ j,MemFits m [LB a tx j]):=by
  have hg:=Lx.drop_getD tx i hi
  have hnb:=Lx.nextB_eq (tx.getD i 0) (tx.drop (i+1))
  rw [← hg] at hnb
  have hl:=letter_c (tx.getD i 0)
  have hd:=digit_c (tx.getD i 0)
  have hp:=prefix_c (tx.drop i) (by rw [List.length_drop];omega)
  have hx:=index_c (tx.getD i 0)
  have h2:=drop2 tx i
  refine ncall_of Tryz.func171 rfl (by decide) ?_
  unfold tokAV
  by_cases c1:Lx.isL (tx.getD i 0)=true
  · rw [if_pos c1] at hnb
    rw [c1] at hl
    have hw:=while_c 211 Lx.isL letter_c a tx i (by omega) hs
    have hwl:Lx.wl Lx.isL tx i=((tx.drop i).takeWhile Lx.isL).length:=rfl
    rw [hwl] at hw
    generalize (tx.drop i).takeWhile Lx.isL=ws at *
    repeat' first|(intro K hK;(with_reducible refine gC ?_);first|refine cP hl ?_|refine cS [0] hw ?_)|(refine sxO ?_;try clear hK K)|refine sxW ?_ ?_<;>intro _|refine sxV ?_ ?_|(intro K hK _;(conv=>whnf))
    all_goals first
      | exact ⟨fun b n e=>by rw [hnb] at e;injection e with e;injection e with e1 e2;subst e1 e2;exact ⟨rfl,MemFits.drop [_] [_]⟩,fun e=>by rw [hnb] at e;cases e⟩
      | skip
  rw [if_neg c1] at hnb
  rw [show Lx.isL (tx.getD i 0)=false by simpa using c1] at hl
  by_cases c2:Lx.isD (tx.getD i 0)=true
  · rw [if_pos c2] at hnb
    rw [c2] at hd
    have hne:(tx.drop i).takeWhile Lx.isD≠[]:=by rw [hg,List.takeWhile_cons_of_pos c2];simp
    have h0:((tx.drop i).takeWhile Lx.isD).getD 0 0=tx.getD i 0:=by rw [hg,List.takeWhile_cons_of_pos c2];rfl
    have hw:NCall Tryz.prog 213 [.ptr 0 a 0] [LB a tx i] fun r m=>r = .tup [if Lx.numOk ((tx.drop i).takeWhile Lx.isD) then tokAV 2 (Lx.num ((tx.drop i).takeWhile Lx.isD)) [] i else tokAV 0 0 [] i,.bool (decide (Lx.numOk ((tx.drop i).takeWhile Lx.isD)))]∧m=[LB a tx (i+((tx.drop i).takeWhile Lx.isD).length)] :=
      (number_c a tx i (by omega) hs _ rfl hne).fits fun r m h=>⟨r,_,rfl,h.2,h.1,rfl⟩
    have hok:Lx.numOk ((tx.drop i).takeWhile Lx.isD)↔¬ (3<((tx.drop i).takeWhile Lx.isD).length∨(1<((tx.drop i).takeWhile Lx.isD).length∧tx.getD i 0=48)):=by unfold Lx.numOk;rw [h0]
    generalize (tx.drop i).takeWhile Lx.isD=ds at *
    by_cases hk:Lx.numOk ds
    · rw [if_neg (hok.1 hk)] at hnb
      rw [if_pos hk,decide_eq_true hk] at hw
      unfold tokAV at hw
      repeat' first|(intro K hK;(with_reducible refine gC ?_);first|refine cP hl ?_|refine cP hd ?_|refine cS [0] hw ?_)|(refine sxO ?_;try clear hK K)|refine sxW ?_ ?_<;>intro _|refine sxV ?_ ?_|(intro K hK _;(conv=>whnf))
      all_goals first
        | exact ⟨fun b n e=>by rw [hnb] at e;injection e with e;injection e with e1 e2;subst e1 e2;exact ⟨rfl,MemFits.drop [_] [_]⟩,fun e=>by rw [hnb] at e;cases e⟩
        | skip
    · rw [if_pos (Decidable.not_not.1 fun q=>hk (hok.2 q))] at hnb
      rw [if_neg hk,decide_eq_false hk] at hw
      unfold tokAV at hw
      repeat' first|(intro K hK;(with_reducible refine gC ?_);first|refine cP hl ?_|refine cP hd ?_|refine cS [0] hw ?_)|(refine sxO ?_;try clear hK K)|refine sxW ?_ ?_<;>intro _|refine sxV ?_ ?_|(intro K hK _;(conv=>whnf))
      all_goals first
        | exact ⟨fun b n e=>(by rw [hnb] at e;cases e),fun _=>⟨rfl,i+ds.length,MemFits.drop [_] [_]⟩⟩
        | skip
  rw [if_neg c2] at hnb
  rw [show Lx.isD (tx.getD i 0)=false by simpa using c2] at hd
  by_cases c3:(tx.drop i).take 2=[58,61]
  · have c3':=(h2.1 c3).2
    rw [if_pos c3'] at hnb
    rw [decide_eq_true c3] at hp
    repeat' first|(intro K hK;(with_reducible refine gC ?_);first|refine cP hl ?_|refine cP hd ?_|refine cP hp ?_)|(refine sxO ?_;try clear hK K)|refine sxW ?_ ?_<;>intro _|refine sxV ?_ ?_|(intro K hK _;(conv=>whnf))
    all_goals first
      | exact ⟨fun b n e=>by rw [hnb] at e;injection e with e;injection e with e1 e2;subst e1 e2;exact ⟨rfl,MemFits.drop [_] [_]⟩,fun e=>by rw [hnb] at e;cases e⟩
      | skip
  have c3':¬ (tx.getD i 0=58∧(tx.drop (i+1)).head?=some 61):=fun e=>c3 (h2.2 ⟨hi,e⟩)
  rw [if_neg c3'] at hnb
  rw [decide_eq_false c3] at hp
  by_cases c4:Lx.isS (tx.getD i 0)=true
  · rw [if_pos c4] at hnb
    repeat' first|((try intro K hK);(with_reducible refine gC ?_);first|refine cP hl ?_|refine cP hd ?_|refine cP hp ?_|(refine NCall.pure hx ?_;rintro _ _ ⟨j,rfl,hj⟩;refine ⟨_,rfl,?_⟩;(conv=>whnf)))|((try intro K hK);(refine NBytes.mk [tx.getD i 0] rfl ?_;conv=>whnf))|(refine sxO ?_;try clear hK K)|refine sxW ?_ ?_<;>intro _|refine sxV ?_ ?_|(intro K hK _;(conv=>whnf))|(intro _;(conv=>whnf))
    all_goals first
      | (exfalso;have:=hj.2 c4;omega)
      | exact ⟨fun b n e=>by rw [hnb] at e;injection e with e;injection e with e1 e2;subst e1 e2;exact ⟨rfl,MemFits.pre 1 rfl⟩,fun e=>by rw [hnb] at e;cases e⟩
      | skip
  · rw [if_neg c4] at hnb
    repeat' first|((try intro K hK);(with_reducible refine gC ?_);first|refine cP hl ?_|refine cP hd ?_|refine cP hp ?_|(refine NCall.pure hx ?_;rintro _ _ ⟨j,rfl,hj⟩;refine ⟨_,rfl,?_⟩;(conv=>whnf)))|((try intro K hK);(refine NBytes.mk [tx.getD i 0] rfl ?_;conv=>whnf))|(refine sxO ?_;try clear hK K)|refine sxW ?_ ?_<;>intro _|refine sxV ?_ ?_|(intro K hK _;(conv=>whnf))|(intro _;(conv=>whnf))
    all_goals first
      | (exfalso;exact c4 (hj.1 (by omega)))
      | exact ⟨fun b n e=>(by rw [hnb] at e;cases e),fun _=>⟨rfl,i,MemFits.drop [_] [_]⟩⟩
      | skip
end Go.Proofs.YtmehinfgdcmmjaaGreatDoor
namespace Go.Proofs.YtmehinfgdcmmjaaGreatDoor
open Go.Sx
set_option maxRecDepth 20000
set_option linter.unusedSimpArgs false
set_option linter.unusedVariables false
set_option linter.unusedVariables false
namespace Lx
structure T where
  k:Int
  n:Int
  s:List UInt8
  at_:Int
def tokV (x:T):List Value:=[.int .i64 x.k,.int .i64 x.n,.string ⟨x.s.toArray⟩,.int .i64 x.at_]
def tokC (x:T):List AV:=[.int .i64 x.k,.int .i64 x.n,.str x.s,.int .i64 x.at_]
theorem tokC_den (l:List T):denL (l.flatMap tokC)=l.flatMap tokV:=by
  induction l with
  | nil=>rfl
  | cons x l ih=>simp only [List.flatMap_cons,denL_append,ih];rfl
theorem tokC_len (l:List T):(l.flatMap tokC).length=l.length*4:=by
  induction l with
  | nil=>rfl
  | cons x l ih=>simp only [List.flatMap_cons,List.length_append,ih,List.length_cons];simp [tokC];omega
def tokAt (tx:List UInt8) (x:B × List UInt8):T:=⟨x.1.k,x.1.n,x.1.s,tx.length - x.2.length⟩
def res (tx:List UInt8) (L:List (B × List UInt8)):List T:=L.map (tokAt tx)++[⟨4,0,[],tx.length⟩]
def good (tx:List UInt8):Prop:=∃ L,toks tx=some L∧L.length≤500
theorem drop_sk (tx:List UInt8) (i:Nat) (hi:i≤tx.length):tx.drop (sk tx i)=skip (tx.drop i)∧i≤sk tx i∧sk tx i≤tx.length:=by
  have hl:=skip_len (tx.drop i).length (tx.drop i) (Nat.le_refl _)
  rw [List.length_drop] at hl
  unfold sk
  refine ⟨?_,by omega,by omega⟩
  by_cases h:skip (tx.drop i)=[]
  · rw [h];simp
  · obtain ⟨b,hb,_⟩:=skip_split (tx.drop i).length (tx.drop i) (Nat.le_refl _) h
    have e:=congrArg List.length hb
    rw [List.length_drop,List.length_append] at e
    generalize skip (tx.drop i)=q at *
    have:tx=tx.take i++(b++q):=by rw [← hb];simp
    have hp:tx.length - q.length=(tx.take i++b).length:=by rw [List.length_append,List.length_take];omega
    rw [hp,this]
    have e2:(List.take i (List.take i tx++(b++q))++b)=List.take i tx++b:=by
      rw [List.take_append_of_le_length (by rw [List.length_take];omega),List.take_take,Nat.min_self]
    rw [e2,← List.append_assoc,List.drop_left]
structure St (tx:List UInt8) (i:Nat) (out:List T):Prop where
  le:i≤tx.length
  few:out.length≤500
  is:∃ pre,out=pre.map (tokAt tx)∧toks tx=(toks (tx.drop i)).map (pre++·)
theorem St.begin (tx:List UInt8):St tx 0 []:=⟨Nat.zero_le _,Nat.zero_le _,[],rfl,by simp⟩
theorem St.done {tx:List UInt8} {i:Nat} {out:List T} (h:St tx i out) (e:sk tx i=tx.length):∃ L,toks tx=some L∧L.length≤500∧out++[⟨4,0,[],tx.length⟩]=res tx L:=by
  obtain ⟨pre,h1,h2⟩:=h.is
  have hd:=(drop_sk tx i h.le).1
  rw [e,List.drop_length] at hd
  rw [toks_nil hd.symm] at h2
  refine ⟨pre,by rw [h2];simp,?_,by rw [h1];rfl⟩
  have:=h.few
  rw [h1,List.length_map] at this
  exact this
theorem St.bad {tx:List UInt8} {i:Nat} {out:List T} (h:St tx i out) (e:sk tx i<tx.length) (hn:nextB (tx.drop (sk tx i))=none):¬ good tx:=by
  obtain ⟨pre,h1,h2⟩:=h.is
  have hd:=(drop_sk tx i h.le).1
  rw [hd] at hn
  have hne:skip (tx.drop i)≠[]:=by
    rw [← hd];intro e2
    have:=congrArg List.length e2
    rw [List.length_drop] at this
    simp at this;omega
  rw [toks_none hne hn] at h2
  rintro ⟨L,h3,_⟩
  rw [h2] at h3;cases h3
theorem St.next {tx:List UInt8} {i:Nat} {out:List T} (h:St tx i out) (e:sk tx i<tx.length) {b:B} {n:Nat} (hn:nextB (tx.drop (sk tx i))=some (b,n)) :
    i<sk tx i+n∧sk tx i+n≤tx.length∧(out.length<500→St tx (sk tx i+n) (out++[⟨b.k,b.n,b.s,sk tx i⟩]))∧(out.length=500→¬ good tx):=by
  obtain ⟨pre,h1,h2⟩:=h.is
  obtain ⟨hd,hle,hle2⟩:=drop_sk tx i h.le
  have hp:=nextB_pos hn
  rw [List.length_drop] at hp
  rw [hd] at hn
  have hne:skip (tx.drop i)≠[]:=by
    rw [← hd];intro e2
    have:=congrArg List.length e2
    rw [List.length_drop] at this
    simp at this;omega
  rw [toks_cons hne hn,Option.map_map] at h2
  have hdr:(skip (tx.drop i)).drop n=tx.drop (sk tx i+n):=by rw [← hd,List.drop_drop]
  rw [hdr] at h2
  refine ⟨by omega,by omega,fun hl=>⟨by omega,by simp;omega,pre++[(b,skip (tx.drop i))],?_,?_⟩,fun hl=>?_⟩
  · rw [h1,List.map_append]
    congr 1
    have:((tx.length:Int) - (skip (tx.drop i)).length)=(sk tx i:Nat):=by
      have:(skip (tx.drop i)).length=tx.length - sk tx i:=by rw [← hd,List.length_drop]
      omega
    simp only [List.map_cons,List.map_nil,tokAt,this]
  · rw [h2]
    congr 1
    funext q
    simp
  · rintro ⟨L,h3,h4⟩
    rw [h2] at h3
    obtain ⟨q,_,rfl⟩:=Option.map_eq_some_iff.1 h3
    rw [h1,List.length_map] at hl
    simp at h4;omega
end Lx
def LexRaw (F:Heap) (tx:List UInt8) (r:AV) (m:List Blk):Prop :=
  (∃ L v,Lx.toks tx=some L∧L.length≤500∧MemFits m [hpB F,⟨addrOf v,(Lx.res tx L).flatMap Lx.tokC,.row v 189 4 (L.length+1)⟩]∧r.den=(AV.tup [.sl 1 v (L.length+1),.int .i64 0,.int .i64 0]).den) ∨
  (¬ Lx.good tx∧∃ at_ e:Int,e≠0∧MemFits m [hpB F]∧r = .tup [.raw (.slice none 0 0),.int .i64 at_,.int .i64 e])
set_option maxHeartbeats 2000000 in
theorem lex_raw (F:Heap) (tx:List UInt8) (hs:tx.length≤4000):NCall Tryz.prog 125 [.str tx] [hpB F] (LexRaw F tx):=by
  refine ncall_of Tryz.func125 rfl (by decide) ?_
  repeat' first|(refine sxZ ?_;try clear hK K)|refine sxW ?_ ?_<;>intro _|(intro K hK _;(conv=>whnf))
  rename_i b0
  refine st_auto (α:=Nat × List Lx.T × Value) (fun x=>Lx.St tx x.1 x.2.1) (fun x=>[.keep,.keep,.drop,.drop,.drop,.keep,.set (.sl 2 x.2.2 x.2.1.length),.drop,.drop,.keep,.keep,.keep,.keep,.keep,.keep,.drop,.drop,.drop,.drop,.drop,.drop,.drop,.drop,.drop,.drop,.drop,.drop,.drop,.drop,.drop,.drop,.drop,.drop,.drop,.drop,.drop,.drop,.drop,.drop,.drop,.drop,.drop,.drop,.drop,.drop,.drop,.drop,.drop,.drop,.drop,.drop,.drop]) (fun x=>[.keep,.set (LB ⟨b0,0,none⟩ tx x.1),.set ⟨addrOf x.2.2,x.2.1.flatMap Lx.tokC,.row x.2.2 189 4 x.2.1.length⟩]) (fun x=>tx.length - x.1) (0,[],.slice none 0 0) (Lx.St.begin tx) ?_ (MemFits.nilRow _ _ _) ?_
  · exact fitsGo
  (intro ⟨i,out,v⟩ hst;intro K hK;(conv=>whnf);refine hK _ _ ?_;clear hK K)
  dsimp only at hst ⊢
  obtain ⟨hd,hle,hle2⟩:=Lx.drop_sk tx i hst.le
  have hsk:=skip_c ⟨b0,0,none⟩ tx i hst.le (by omega)
  have hdone:=hst.done
  have hbad:=hst.bad
  have hnext:=@Lx.St.next _ _ _ hst
  have hfew:=hst.few
  have hol:=Lx.tokC_len out
  generalize Lx.sk tx i=j at *
  by_cases hj:j=tx.length
  · obtain ⟨L,hL,hLl,hres⟩:=hdone hj
    have hll:out.length=L.length:=by
      have:=congrArg List.length hres
      simpa [Lx.res] using this
    subst hj
    repeat' first|(intro K hK;(with_reducible refine gC ?_);refine cS [1] hsk ?_)|(refine sxZ ?_;try clear hK K)|refine sxW ?_ ?_<;>intro _|(intro K hK _;(conv=>whnf))
    rename_i b9 v2
    all_goals
      refine .inl ⟨L,v2,hL,hLl,MemFits.pick [0,2] (by decide) ?_,?_⟩
      · rw [← hres,← hll,List.flatMap_append]
        rfl
      · simp only [AV.den,denL,slOf,hll]
  · have hjl:j<tx.length:=by omega
    have hnx:=next_c ⟨b0,0,none⟩ tx j hjl (by omega)
    cases hn:Lx.nextB (tx.drop j) with
    | none =>
      have hbd:=hbad hjl hn
      have hnx:=hnx.mono (K':=fun r m=>r = .tup [tokAV 0 0 [] j,.bool false]∧∃ q,MemFits m [LB ⟨b0,0,none⟩ tx q]) fun r m h=>h.2 hn
      have hnx:NCall Tryz.prog 171 [.ptr 0 ⟨b0,0,none⟩ 0] [LB ⟨b0,0,none⟩ tx j] fun r m=>r = .tup [tokAV 0 0 [] j,.bool false]∧∃ q,m=[LB ⟨b0,0,none⟩ tx q]:=hnx.fits fun r m h=>by
        obtain ⟨h1,q,h2⟩:=h
        exact ⟨r,_,rfl,h2,h1,q,rfl⟩
      unfold tokAV at hnx
      repeat' first|(intro K hK;(with_reducible refine gC ?_);first|refine cS [1] hsk ?_|(refine cN [1] hnx ?_;rintro _ _ ⟨rfl,q,rfl⟩;refine cR ?_))|(refine sxZ ?_;try clear hK K)|refine sxW ?_ ?_<;>intro _|(intro K hK _;(conv=>whnf))
      all_goals exact .inr ⟨hbd,_,_,by decide,MemFits.pick [0] (by decide) rfl,rfl⟩
    | some bn =>
      obtain ⟨b,n⟩:=bn
      obtain ⟨h1,h2,h3,h4⟩:=hnext hjl hn
      have hnx:NCall Tryz.prog 171 [.ptr 0 ⟨b0,0,none⟩ 0] [LB ⟨b0,0,none⟩ tx j] fun r m=>r = .tup [tokAV b.k b.n b.s j,.bool true]∧m=[LB ⟨b0,0,none⟩ tx (j+n)]:=hnx.fits fun r m h=>by
        obtain ⟨h5,h6⟩:=h.1 b n hn
        exact ⟨r,_,rfl,h6,h5,rfl⟩
      unfold tokAV at hnx
      by_cases hf:out.length=500
      · have hbd:=h4 hf
        repeat' first|(intro K hK;(with_reducible refine gC ?_);first|refine cS [1] hsk ?_|refine cS [1] hnx ?_)|(refine sxZ ?_;try clear hK K)|refine sxW ?_ ?_<;>intro _|(intro K hK _;(conv=>whnf))
        all_goals exact .inr ⟨hbd,_,_,by decide,MemFits.pick [0] (by decide) rfl,rfl⟩
      · have hst2:=h3 (by omega)
        repeat' first|(intro K hK;(with_reducible refine gC ?_);first|refine cS [1] hsk ?_|refine cS [1] hnx ?_)|(refine sxZ ?_;try clear hK K)|refine sxW ?_ ?_<;>intro _|(intro K hK _;(conv=>whnf))
        rename_i v2
        refine st_round (j+n,out++[⟨b.k,b.n,b.s,j⟩],v2) hst2 (by dsimp only;omega) ?_ (MemFits.trans (MemFits.pre 3 rfl) (MemFits.eq ?_))
        · exact fitsGo
        · rw [List.flatMap_append,List.length_append]
          rfl
theorem lex_c (F:Heap) (tx:List UInt8) (hs:tx.length≤4000):NCall Tryz.prog 125 [.str tx] [hpB F] fun r m =>
    (∃ L F' v,Lx.toks tx=some L∧L.length≤500∧F.le F'∧m=[hpB F']∧r = .tup [.hs v (Lx.res tx L).length,.int .i64 0,.int .i64 0]∧RowF F' 4 (fun x vs=>vs=Lx.tokV x) v (Lx.res tx L)) ∨
    (¬ Lx.good tx∧∃ at_ e:Int,e≠0∧m=[hpB F]∧r = .tup [.hs (.slice none 0 0) 0,.int .i64 at_,.int .i64 e]):=by
  refine Go.Sx.NCall.know (lex_raw F tx hs) fun r m' h ⟨w,hw⟩=>?_
  rcases h with ⟨L,v,hL,hLl,hm,hr⟩ | ⟨hb,at_,e,he,hm,hr⟩
  · have hlen:(Lx.res tx L).length=L.length+1:=by simp [Lx.res]
    obtain ⟨hok,_,hsl⟩:=(hm w hw).1.row (List.mem_cons_of_mem _ (List.mem_singleton.2 rfl))
    refine ⟨.tup [.hs v (Lx.res tx L).length,.int .i64 0,.int .i64 0],_,?_,hm.trans (MemFits.freeze (m:=[])),.inl ⟨L,_,v,hL,hLl,addF.old,rfl,rfl,rowF_new (by rw [hlen];exact hok) (Lx.tokC_den _) (fun x _=>rfl)⟩⟩
    rw [hr];rfl
  · exact ⟨.tup [.hs (.slice none 0 0) 0,.int .i64 at_,.int .i64 e],_,by rw [hr];rfl,hm,.inr ⟨hb,at_,e,he,rfl,rfl⟩⟩
def Lx.b (x:Lx.T):Lx.B:=⟨x.k,x.n,x.s⟩
end Go.Proofs.YtmehinfgdcmmjaaGreatDoor
