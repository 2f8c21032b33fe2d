/- A part of the proof. -/
import Derived.Test.YtmehinfgdcmmjaaGreatDoorTJ30
import Derived.Test.YtmehinfgdcmmjaaGreatDoorTJ5
namespace Go.Proofs.YtmehinfgdcmmjaaGreatDoor
open Go.Sx
set_option maxRecDepth 20000
set_option linter.unusedSimpArgs false
set_option linter.unusedVariables false
namespace Ac
def part (x:A):List UInt8 :=
  if x.k=1 then [115,101,116,32]++nameB x.f.toNat++[32]++Lib.itoa x.v
  else if x.k=2 then [111,117,116,32]++Lib.itoa x.v else [98,97,99,107]
def text (l:List A):List UInt8:=if l=[] then [100,114,111,112] else Lib.join (l.map part) [44,32]
theorem part_len {x:A} (hx:x.in64):(part x).length≤40:=by
  obtain ⟨h1,h2,h3⟩:=hx
  have:=Lib.itoa_length_le x.v h3.1 h3.2
  have h5:(nameB x.f.toNat).length≤4:=by unfold nameB;split<;>decide
  unfold part
  split
  · simp;omega
  · split
    · simp;omega
    · simp
theorem map_next {l:List A} {k:Nat} {x:A} (h:l[k]?=some x):(l.take (k+1)).map part=(l.take k).map part++[part x]:=by
  rw [take_next h,List.map_append];rfl
end Ac
theorem qG (n:Nat) (hn:n<4):[AV.str [115,114,99],AV.str [100,115,116],AV.str [107,105,110,100],AV.str [116,97,103]][n]?=some (.str (nameB n)):=by
  have:n=0∨n=1∨n=2∨n=3:=by omega
  rcases this with rfl | rfl | rfl | rfl<;>rfl
set_option maxHeartbeats 2000000 in
theorem mY (F:Heap) (hF:TabF F) (v:Value) (l:List Ac.A) (hv:aI F 3 (fun x vs=>vs=Ac.actV x) v l) (hn:l.length≤1000) (hl:∀ x∈l,x.in64) (hr:∀ x∈l,x.k=1→0≤x.f∧x.f≤3) :
    Qz Tryz.prog 53 [.hs v l.length] [hpB F] fun r m=>r = .str (Ac.text l)∧Qw m [hpB F]:=by
  have hok:=hv.ok
  refine aB Tryz.func53 rfl (by decide) ?_
  have hszA:∀ y∈l.map Ac.part,y.length≤40:=fun y hy=>by
    obtain ⟨x,hx,rfl⟩:=List.mem_map.1 hy
    exact Ac.part_len (hl x hx)
  repeat' first|(refine sxZ ?_;try clear hK K)|refine sxW ?_ ?_<;>intro _|(intro K hK _;conv=>whnf)
  refine aE (α:=Value × Nat) (fun (u,k)=>k≤l.length) (fun (u,k)=>[.k,.k,.k,.set (.sl 1 u k),.k,.d,.k,.k,.set (.int .i64 k),.d,.d,.d,.d,.d,.d,.d,.d,.d,.d,.d,.d,.d,.d,.d,.d,.d,.d,.d,.d,.d,.d,.d,.d,.d,.d,.d,.d,.d,.d,.d,.d,.d,.d,.d,.k,.k,.k,.k,.k])
    (fun (u,k)=>[.k,.set ⟨addrOf u,strAV ((l.take k).map Ac.part),.row u 9 1 k⟩]) (fun (u,k)=>l.length - k) (.slice none 0 0,0) (Nat.zero_le _) ?_ (Qw.nilRow [hpB F] _ _) ?_
  · exact aD
  (intro ⟨u,k⟩ hk;intro K hK;(conv=>whnf);refine hK _ _ ?_;clear hK K)
  by_cases hlt:k<l.length
  · obtain ⟨g0,g1,g2⟩:=hv.get3 hlt
    have hx:l[k]?=some l[k]:=List.getElem?_eq_getElem hlt
    have hmem:=List.mem_of_getElem? hx
    have hnx:=Ac.map_next hx
    generalize l[k]=x at *
    obtain ⟨r1,r2,r3⟩:=hl x hmem
    have hrx:=hr x hmem
    have hI:=Lib.itoa_length_le x.v r3.1 r3.2
    have hlm:(strAV ((l.take k).map Ac.part)).length=k:=by rw [strAV_len];simp;omega
    have hnx2:strAV ((l.take (k+1)).map Ac.part)=strAV ((l.take k).map Ac.part)++[.str (Ac.part x)]:=by rw [hnx];simp [strAV]
    generalize strAV ((l.take k).map Ac.part)=ps at *
    have hpx:Ac.part x=if x.k=1 then [115,101,116,32]++nameB x.f.toNat++[32]++Lib.itoa x.v
      else if x.k=2 then [111,117,116,32]++Lib.itoa x.v else [98,97,99,107]:=rfl
    generalize Ac.part x=px at *
    obtain ⟨xk,xf,xv⟩:=x
    dsimp only at *
    have hi:=itoa_c F hF xv r3
    by_cases h1:xk=1
    · obtain ⟨a1,a2⟩:=hrx h1
      obtain ⟨fn,rfl⟩:=Int.eq_ofNat_of_zero_le a1
      rw [if_pos h1,Int.toNat_natCast] at hpx
      have hnm:=qG fn (by omega)
      have hnl:(nameB fn).length≤4:=by unfold nameB;split<;>decide
      have m1:max (fn:Int) 0=fn:=by omega
      have m2:min (fn:Int) 3=fn:=by omega
      generalize nameB fn=nm at *
      (repeat' (first|(with_reducible first|(refine hK _ _ ?_;clear hK K)|(refine hA ?_;clear hA hB A B)|(refine hB ?_;clear hA hB A B)|(refine hK _ ?_;clear hK K))|((first|((with_reducible refine gC ?_);(refine cE [0] (hi) rfl rfl ?_))|((with_reducible refine gV ?_);(first|((with_reducible refine NV.eq (m1) ?_))|((with_reducible refine NV.eq (m2) ?_)))))<;>(conv=>whnf))|(refine dY ?_)|((refine nthK.of (hnm) ?_)<;>(conv=>whnf))|((with_reducible refine gNO ?_);(first|(refine z36 rfl (by kernel_rfl) ?_;intro K hK;conv=>whnf)|(refine z37 rfl (by kernel_rfl) ?_;intro K hK;conv=>whnf)|(refine z38 rfl (by kernel_rfl) ?_)|(refine z39 rfl rfl (by kernel_rfl) (by intro h;cases h) ?_)))|((with_reducible refine gNE ?_);(first|(refine z40 ?_ ?_;(intro K hK;conv=>whnf))|(refine z41 ?_ ?_;(intro K hK;conv=>whnf))|exact z42))|((with_reducible refine gX ?_);(refine z35 (by kernel_rfl) _ rfl ?_))|(refine eF ?_)|(refine eG ?_;intro K hK;conv=>whnf)|(refine eH ?_;intro A B hA hB;conv=>whnf)|((with_reducible first|refine NIf.dec (fun _=>?_) (fun _=>?_)|refine NIf.both (fun _=>?_) (fun _=>?_))<;>(conv=>whnf))|((intro _;skip)<;>(conv=>whnf))))
      all_goals first
        | (rename_i v2
           refine aC (v2,k+1) hlt (by dsimp only;omega) ?_ (Qw.pre 2 ?_)
           · exact aD
           · simp only [autoM,List.take]
             rw [hnx2,hpx]
             rfl)
    · rw [if_neg h1] at hpx
      by_cases h2:xk=2
      · rw [if_pos h2] at hpx
        repeat' first|(intro K hK;(with_reducible refine gC ?_);refine cS [0] hi ?_)|(refine sxO ?_;try clear hK K)|refine sxW ?_ ?_<;>intro _|refine sxV ?_ ?_|(intro K hK _;conv=>whnf)
        all_goals first
          | (rename_i v2
             refine aC (v2,k+1) hlt (by dsimp only;omega) ?_ (Qw.pre 2 ?_)
             · exact aD
             · simp only [autoM,List.take]
               rw [hnx2,hpx]
               rfl)
      · rw [if_neg h2] at hpx
        repeat' first|(refine sxO ?_;try clear hK K)|refine sxW ?_ ?_<;>intro _|refine sxV ?_ ?_|(intro K hK _;conv=>whnf)
        all_goals first
          | (rename_i v2
             refine aC (v2,k+1) hlt (by dsimp only;omega) ?_ (Qw.pre 2 ?_)
             · exact aD
             · simp only [autoM,List.take]
               rw [hnx2,hpx]
               rfl)
  · have e:k=l.length:=by omega
    subst e
    have hlen:(l.map Ac.part).length=l.length:=List.length_map ..
    rw [List.take_length]
    have hjl:=join_len (sep:=[44,32]) hszA
    have hT:Ac.text l=if l=[] then [100,114,111,112] else Lib.join (l.map Ac.part) [44,32]:=rfl
    rw [hlen] at hjl
    have hj:=fun m hm=>join_own F u (l.map Ac.part) [44,32] 9 m hm (by simp at hjl;omega) (by omega) 1
    rw [hlen] at hj
    generalize Ac.text l=tx at *
    repeat' first|((try intro K hK);(with_reducible refine Qz.isF 97 ?_);(refine (hj _ (Qw.eq rfl)).mono ?_;rintro _ _ ⟨rfl,rfl⟩);conv=>whnf)|(refine sxZ ?_;try clear hK K)|refine sxW ?_ ?_<;>intro _|(intro K hK _;conv=>whnf)
    all_goals first
      | exact ⟨by rw [hT,if_pos (List.eq_nil_of_length_eq_zero (by omega))],Qw.drop [_] [_]⟩
      | exact ⟨by rw [hT,if_neg (fun e=>by subst e;simp at *)],Qw.drop [_] [_]⟩
theorem pp (F:Heap) (hF:TabF F) (v:Value) (l:List Ac.A) (hv:aI F 3 (fun x vs=>vs=Ac.actV x) v l) (hn:l.length≤1000) (hl:∀ x∈l,x.in64) (hr:∀ x∈l,x.k=1→0≤x.f∧x.f≤3) :
    Qz Tryz.prog 53 [.hs v l.length] [hpB F] fun r m=>r = .str (Ac.text l)∧m=[hpB F] :=
  (mY F hF v l hv hn hl hr).fits fun r m' h=>⟨r,_,rfl,h.2,h.1,rfl⟩
set_option maxHeartbeats 2000000
theorem mr (F:Heap) (v:Value) (x:Ru.R) (hv:Ru.RowA F v x) (hx:x.in64) (ports:Int):Qz Tryz.prog 40 [.agg (x.cs v),.int .i64 ports] [hpB F] fun r m=>r = .bool (decide (Ru.ok ports x))∧m=[hpB F]:=by
  have c1:=right8_c x.m hx.2.1
  have c2:=mp F v x.acts hv hx.2.2.2 ports
  have hq:Ru.ok ports x↔0≤x.prio∧x.prio<65536∧x.m.ok∧Ac.okL ports x.acts:=Iff.rfl
  refine Qz.fits (K:=fun r m=>r = .bool (decide (Ru.ok ports x))∧Qw m [hpB F]) ?_ fun r m' h=>⟨r,_,rfl,h.2,h.1,rfl⟩
  refine aB Tryz.func40 rfl (by decide) ?_
  simp only [Ru.R.cs,Mt.M.av] at *
  by_cases h1:x.m.ok
  · rw [decide_eq_true h1] at c1
    by_cases h2:Ac.okL ports x.acts
    · rw [decide_eq_true h2] at c2
      repeat' first|(intro K hK;(with_reducible refine gC ?_);first|refine cP c1 ?_|refine cS [0] c2 ?_)|(refine sxO ?_;try clear hK K)|refine sxW ?_ ?_<;>intro _|refine sxV ?_ ?_|(intro K hK _;conv=>whnf)
      all_goals first
        | exact ⟨boolT (hq.2 ⟨by omega,by omega,h1,h2⟩),Qw.drop [_] [_]⟩
        | exact ⟨boolF (fun h=>by have:=hq.1 h;omega),Qw.drop [_] [_]⟩
        | skip
    · rw [decide_eq_false h2] at c2
      repeat' first|(intro K hK;(with_reducible refine gC ?_);first|refine cP c1 ?_|refine cS [0] c2 ?_)|(refine sxO ?_;try clear hK K)|refine sxW ?_ ?_<;>intro _|refine sxV ?_ ?_|(intro K hK _;conv=>whnf)
      all_goals exact ⟨boolF (fun h=>h2 (hq.1 h).2.2.2),Qw.drop [_] [_]⟩
  · rw [decide_eq_false h1] at c1
    repeat' first|(intro K hK;(with_reducible refine gC ?_);refine cP c1 ?_)|(refine sxO ?_;try clear hK K)|refine sxW ?_ ?_<;>intro _|refine sxV ?_ ?_|(intro K hK _;conv=>whnf)
    all_goals exact ⟨boolF (fun h=>h1 (hq.1 h).2.2.1),Qw.drop [_] [_]⟩
theorem qL (x y:Ru.R) (v w:Value):Qz Tryz.prog 83 [.agg (x.cs v),.agg (y.cs w)] [] fun r _=>r = .bool (decide (x.prio=y.prio∧x.m=y.m)):=by
  have hc:=kB x.m y.m
  refine aB Tryz.func83 rfl (by decide) ?_
  simp only [Ru.R.cs]
  (repeat' (first|(with_reducible first|(refine hK _ _ ?_;clear hK K)|(refine hA ?_;clear hA hB A B)|(refine hB ?_;clear hA hB A B)|(refine hK _ ?_;clear hK K))|refine dY ?_|((with_reducible refine gNO ?_);(first|(refine z36 rfl (by kernel_rfl) ?_;intro K hK;conv=>whnf)|(refine z37 rfl (by kernel_rfl) ?_;intro K hK;conv=>whnf)|refine z38 rfl (by kernel_rfl) ?_|refine z39 rfl rfl (by kernel_rfl) (by intro h;cases h) ?_))|((with_reducible refine gNE ?_);(first|(refine z40 ?_ ?_;(intro K hK;conv=>whnf))|(refine z41 ?_ ?_;(intro K hK;conv=>whnf))|exact z42))|((with_reducible refine gNO ?_);(first|(refine z36 rfl (by kernel_rfl) ?_;intro K hK;conv=>whnf)|(refine z37 rfl (by kernel_rfl) ?_;intro K hK;conv=>whnf)|refine z38 rfl (by kernel_rfl) ?_|refine z39 rfl rfl (by kernel_rfl) (by intro h;cases h) ?_))|((with_reducible refine gNE ?_);(first|(refine z40 ?_ ?_;(intro K hK;conv=>whnf))|(refine z41 ?_ ?_;(intro K hK;conv=>whnf))|exact z42))|((with_reducible refine gX ?_);(first|refine z34 (by kernel_rfl) (by decide +kernel) ?_|refine z35 (by kernel_rfl) _ rfl ?_|refine z35 (by kernel_rfl) _ rfl ?_))|refine eF ?_|(refine eG ?_;intro K hK;conv=>whnf)|(refine eH ?_;intro A B hA hB;conv=>whnf)|((with_reducible first|refine NIf.dec (fun _=>?_) (fun _=>?_)|refine NIf.both (fun _=>?_) (fun _=>?_))<;>(conv=>whnf))|((intro _;skip)<;>(conv=>whnf))))
  all_goals first
    | exact boolF (fun h=>by have:=h.1;omega)
    | (rw [hc];exact boolIff (by simp only [decide_eq_true_eq];exact ⟨fun h=>⟨by omega,h⟩,fun h=>h.2⟩))
    | skip
theorem ji (F:Heap) (x y:Ru.R) (v w:Value) (hv:Ru.RowA F v x) (hw:Ru.RowA F w y) (hx:x.acts.length≤9223372036854775807) (hy:y.acts.length≤9223372036854775807):Qz Tryz.prog 39 [.agg (x.cs v),.agg (y.cs w)] [hpB F] fun r m=>r = .bool (decide (Ru.same x y))∧m=[hpB F]:=by
  have hc:=kB x.m y.m
  have c2:=lG F v w x.acts y.acts hv hw hx hy
  have hq:Ru.same x y↔(x.prio=y.prio∧x.m=y.m)∧x.acts=y.acts:=Iff.rfl
  refine Qz.fits (K:=fun r m=>r = .bool (decide (Ru.same x y))∧Qw m [hpB F]) ?_ fun r m' h=>⟨r,_,rfl,h.2,h.1,rfl⟩
  refine aB Tryz.func39 rfl (by decide) ?_
  simp only [Ru.R.cs] at *
  by_cases h1:x.m=y.m
  · rw [decide_eq_true h1] at hc
    repeat' first|((try intro K hK);(with_reducible refine gC ?_);refine cS [0] c2 ?_)|((first|intro A B hA hB|intro K hK|skip);first|((with_reducible refine NIf.yes ?s ?_);(case s=>(rw [hc]));conv=>whnf)|((with_reducible refine NIf.no ?s ?_);(case s=>(rw [hc]));conv=>whnf))|(refine sxO ?_;(try clear hK K);try clear hA hB A B)|refine sxW ?_ ?_<;>intro _|refine sxV ?_ ?_|(intro K hK _;conv=>whnf)
    all_goals first
      | exact ⟨boolF (fun h=>by have:=(hq.1 h).1.1;omega),Qw.drop [_] [_,_]⟩
      | exact ⟨boolIff (by rw [hq,decide_eq_true_eq];exact ⟨fun h=>⟨⟨by omega,h1⟩,h⟩,fun h=>h.2⟩),Qw.drop [_] [_,_]⟩
      | skip
  · rw [decide_eq_false h1] at hc
    repeat' first|((first|intro A B hA hB|intro K hK|skip);first|((with_reducible refine NIf.yes ?s ?_);(case s=>(rw [hc]));conv=>whnf)|((with_reducible refine NIf.no ?s ?_);(case s=>(rw [hc]));conv=>whnf))|(refine sxO ?_;(try clear hK K);try clear hA hB A B)|refine sxW ?_ ?_<;>intro _|refine sxV ?_ ?_|(intro K hK _;conv=>whnf)
    all_goals exact ⟨boolF (fun h=>h1 (hq.1 h).1.2),Qw.drop [_] [_,_]⟩
theorem np (x y:Ru.R) (v w:Value):Qz Tryz.prog 41 [.agg (x.cs v),.agg (y.cs w)] [] fun r _=>r = .bool (decide (x.prio>y.prio)):=by
  refine aB Tryz.func41 rfl (by decide) ?_
  simp only [Ru.R.cs]
  repeat' first|(refine sxZ ?_;try clear hK K)|refine sxW ?_ ?_<;>intro _|(intro K hK _;conv=>whnf)
  all_goals rfl
def Ru.text (x:Ru.R) (a:Mt.N):List UInt8:=Lib.itoa x.prio++[32]++Mt.text a++[58,32]++Ac.text x.acts
theorem l0 (l:List Ac.A) (hl:∀ x∈l,x.in64):(Ac.text l).length≤4+42*l.length:=by
  unfold Ac.text
  split
  · simp
  · have:=join_len (sep:=[44,32]) (xs:=l.map Ac.part) (B:=40) fun y hy=>by
      obtain ⟨x,hx,rfl⟩:=List.mem_map.1 hy
      exact Ac.part_len (hl x hx)
    simp only [List.length_map,List.length_cons,List.length_nil] at this
    omega
theorem lY (a:Mt.N) (ha:a.ok):(Mt.text a).length≤300:=by
  have h1:=Mt.partsTo_len a 4
  have h2:=join_len (sep:=[44,32]) (Mt.parts_size ha.1 ha.lt 4 (Nat.le_refl _))
  simp only [List.length_cons,List.length_nil] at h2
  unfold Mt.text
  split
  · simp
  · omega
theorem jT (F:Heap) (hF:TabF F) (v:Value) (x:Ru.R) (hv:Ru.RowA F v x) (hx:x.in64) (hn:x.acts.length≤1000) (hr:∀ y∈x.acts,y.k=1→0≤y.f∧y.f≤3) (a:Mt.N) (ha:x.m=a.toM) (hao:a.ok) :
    Qz Tryz.prog 25 [.agg (x.cs v)] [hpB F] fun r m=>r = .str (Ru.text x a)∧m=[hpB F]:=by
  have c1:=itoa_c F hF x.prio hx.1
  have c2:=qd F hF a hao
  have c3:=pp F hF v x.acts hv hn hx.2.2.1 hr
  rw [← ha] at c2
  have l1:=Lib.itoa_length_le x.prio hx.1.1 hx.1.2
  have l2:=lY a hao
  have l3:=l0 x.acts hx.2.2.1
  have he:Ru.text x a=Lib.itoa x.prio++[32]++Mt.text a++[58,32]++Ac.text x.acts:=rfl
  generalize Ru.text x a=cc at *
  generalize Lib.itoa x.prio=s1 at *
  generalize Mt.text a=s2 at *
  generalize Ac.text x.acts=s3 at *
  refine Qz.fits (K:=fun r m=>r = .str cc∧Qw m [hpB F]) ?_ fun r m' h=>⟨r,_,rfl,h.2,h.1,rfl⟩
  refine aB Tryz.func25 rfl (by decide) ?_
  simp only [Ru.R.cs,Mt.M.av] at *
  repeat' first|(intro K hK;(with_reducible refine gC ?_);first|refine cS [0] c1 ?_|refine cS [0] c2 ?_|refine cS [0] c3 ?_)|(refine sxO ?_;try clear hK K)|refine sxW ?_ ?_<;>intro _|refine sxV ?_ ?_|(intro K hK _;conv=>whnf)
  all_goals exact ⟨by rw [he],Qw.drop [_] [_]⟩
end Go.Proofs.YtmehinfgdcmmjaaGreatDoor
