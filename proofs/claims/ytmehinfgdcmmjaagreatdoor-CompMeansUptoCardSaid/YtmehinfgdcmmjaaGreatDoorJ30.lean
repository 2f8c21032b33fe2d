import Derived.Test.YtmehinfgdcmmjaaGreatDoorJ29
import Derived.Test.YtmehinfgdcmmjaaGreatDoorJ5
import Derived.Test.YtmehinfgdcmmjaaGreatDoorJ7
import Derived.Test.YtmehinfgdcmmjaaGreatDoorJ21
import Derived.Test.YtmehinfgdcmmjaaGreatDoorJ19
import Derived.Lib.ConvBytes
import Derived.Test.YtmehinfgdcmmjaaGreatDoorSxC
import Derived.WideLaws
namespace Go.Proofs.YtmehinfgdcmmjaaGreatDoor
open Go.Sx
set_option maxRecDepth 20000
set_option linter.unusedSimpArgs false
set_option linter.unusedVariables false
set_option linter.unusedVariables false
namespace Ac
def part (x:A):List UInt8 :=
  if x.k=1 then [115,101,116,32]++nameB x.f.toNat++[32]++Lib.itoa x.v
  else if x.k=2 then [111,117,116,32]++Lib.itoa x.v else [98,97,99,107]
def text (l:List A):List UInt8:=if l=[] then [100,114,111,112] else Lib.join (l.map part) [44,32]
theorem part_len {x:A} (hx:x.in64):(part x).length≤40:=by
  obtain ⟨h1,h2,h3⟩:=hx
  have:=Lib.itoa_length_le x.v h3.1 h3.2
  have h5:(nameB x.f.toNat).length≤4:=by unfold nameB;split<;>decide
  unfold part
  split
  · simp;omega
  · split
    · simp;omega
    · simp
theorem map_next {l:List A} {k:Nat} {x:A} (h:l[k]?=some x):(l.take (k+1)).map part=(l.take k).map part++[part x]:=by
  rw [take_next h,List.map_append];rfl
end Ac
theorem name_at (n:Nat) (hn:n<4):[AV.str [115,114,99],AV.str [100,115,116],AV.str [107,105,110,100],AV.str [116,97,103]][n]?=some (.str (nameB n)):=by
  have:n=0∨n=1∨n=2∨n=3:=by omega
  rcases this with rfl | rfl | rfl | rfl<;>rfl
set_option maxHeartbeats 2000000 in
theorem text9_raw (F:Heap) (hF:TabF F) (v:Value) (l:List Ac.A) (hv:RowF F 3 (fun x vs=>vs=Ac.actV x) v l) (hn:l.length≤1000) (hl:∀ x∈l,x.in64) (hr:∀ x∈l,x.k=1→0≤x.f∧x.f≤3) :
    NCall Tryz.prog 53 [.hs v l.length] [hpB F] fun r m=>r = .str (Ac.text l)∧MemFits m [hpB F]:=by
  have hok:=hv.ok
  refine ncall_of Tryz.func53 rfl (by decide) ?_
  have hszA:∀ y∈l.map Ac.part,y.length≤40:=fun y hy=>by
    obtain ⟨x,hx,rfl⟩:=List.mem_map.1 hy
    exact Ac.part_len (hl x hx)
  repeat' first|(refine sxZ ?_;try clear hK K)|refine sxW ?_ ?_<;>intro _|(intro K hK _;(conv=>whnf))
  refine st_auto (α:=Value × Nat) (fun (u,k)=>k≤l.length) (fun (u,k)=>[.keep,.keep,.keep,.set (.sl 1 u k),.keep,.drop,.keep,.keep,.set (.int .i64 k),.drop,.drop,.drop,.drop,.drop,.drop,.drop,.drop,.drop,.drop,.drop,.drop,.drop,.drop,.drop,.drop,.drop,.drop,.drop,.drop,.drop,.drop,.drop,.drop,.drop,.drop,.drop,.drop,.drop,.drop,.drop,.drop,.drop,.drop,.drop,.keep,.keep,.keep,.keep,.keep])
    (fun (u,k)=>[.keep,.set ⟨addrOf u,strAV ((l.take k).map Ac.part),.row u 9 1 k⟩]) (fun (u,k)=>l.length - k) (.slice none 0 0,0) (Nat.zero_le _) ?_ (MemFits.nilRow [hpB F] _ _) ?_
  · exact fitsGo
  (intro ⟨u,k⟩ hk;intro K hK;(conv=>whnf);refine hK _ _ ?_;clear hK K)
  by_cases hlt:k<l.length
  · obtain ⟨g0,g1,g2⟩:=hv.get3 hlt
    have hx:l[k]?=some l[k]:=List.getElem?_eq_getElem hlt
    have hmem:=List.mem_of_getElem? hx
    have hnx:=Ac.map_next hx
    generalize l[k]=x at *
    obtain ⟨r1,r2,r3⟩:=hl x hmem
    have hrx:=hr x hmem
    have hI:=Lib.itoa_length_le x.v r3.1 r3.2
    have hlm:(strAV ((l.take k).map Ac.part)).length=k:=by rw [strAV_len];simp;omega
    have hnx2:strAV ((l.take (k+1)).map Ac.part)=strAV ((l.take k).map Ac.part)++[.str (Ac.part x)]:=by rw [hnx];simp [strAV]
    generalize strAV ((l.take k).map Ac.part)=ps at *
    have hpx:Ac.part x=if x.k=1 then [115,101,116,32]++nameB x.f.toNat++[32]++Lib.itoa x.v
      else if x.k=2 then [111,117,116,32]++Lib.itoa x.v else [98,97,99,107]:=rfl
    generalize Ac.part x=px at *
    obtain ⟨xk,xf,xv⟩:=x
    dsimp only at *
    have hi:=itoa_c F hF xv r3
    by_cases h1:xk=1
    · obtain ⟨a1,a2⟩:=hrx h1
      obtain ⟨fn,rfl⟩:=Int.eq_ofNat_of_zero_le a1
      rw [if_pos h1,Int.toNat_natCast] at hpx
      have hnm:=name_at fn (by omega)
      have hnl:(nameB fn).length≤4:=by unfold nameB;split<;>decide
      have m1:max (fn:Int) 0=fn:=by omega
      have m2:min (fn:Int) 3=fn:=by omega
      generalize nameB fn=nm at *
      (repeat' (first|(with_reducible first|(refine hK _ _ ?_;clear hK K)|(refine hA ?_;clear hA hB A B)|(refine hB ?_;clear hA hB A B)|(refine hK _ ?_;clear hK K))|((first|((with_reducible refine gC ?_);(refine cE [0] (hi) rfl rfl ?_))|((with_reducible refine gV ?_);(first|((with_reducible refine NV.eq (m1) ?_))|((with_reducible refine NV.eq (m2) ?_)))))<;>(conv=>whnf))|(refine sxEA ?_)|((refine nthK.of (hnm) ?_)<;>(conv=>whnf))|((with_reducible refine gNO ?_);(first|(refine z36 rfl (by kernel_rfl) ?_;intro K hK;(conv=>whnf))|(refine z37 rfl (by kernel_rfl) ?_;intro K hK;(conv=>whnf))|(refine z38 rfl (by kernel_rfl) ?_)|(refine z39 rfl rfl (by kernel_rfl) (by intro h;cases h) ?_)))|((with_reducible refine gNE ?_);(first|(refine z40 ?_ ?_;(intro K hK;(conv=>whnf)))|(refine z41 ?_ ?_;(intro K hK;(conv=>whnf)))|exact z42))|((with_reducible refine gX ?_);(refine z35 (by kernel_rfl) _ rfl ?_))|(refine sxSA ?_)|(refine sxIA ?_;intro K hK;(conv=>whnf))|(refine sxCA ?_;intro A B hA hB;(conv=>whnf))|((with_reducible first|refine NIf.dec (fun _=>?_) (fun _=>?_)|refine NIf.both (fun _=>?_) (fun _=>?_))<;>(conv=>whnf))|((intro _;skip)<;>(conv=>whnf))))
      all_goals first
        | (rename_i v2
           refine st_round (v2,k+1) hlt (by dsimp only;omega) ?_ (MemFits.pre 2 ?_)
           · exact fitsGo
           · simp only [autoM,List.take]
             rw [hnx2,hpx]
             rfl)
    · rw [if_neg h1] at hpx
      by_cases h2:xk=2
      · rw [if_pos h2] at hpx
        repeat' first|(intro K hK;(with_reducible refine gC ?_);refine cS [0] hi ?_)|(refine sxO ?_;try clear hK K)|refine sxW ?_ ?_<;>intro _|refine sxV ?_ ?_|(intro K hK _;(conv=>whnf))
        all_goals first
          | (rename_i v2
             refine st_round (v2,k+1) hlt (by dsimp only;omega) ?_ (MemFits.pre 2 ?_)
             · exact fitsGo
             · simp only [autoM,List.take]
               rw [hnx2,hpx]
               rfl)
      · rw [if_neg h2] at hpx
        repeat' first|(refine sxO ?_;try clear hK K)|refine sxW ?_ ?_<;>intro _|refine sxV ?_ ?_|(intro K hK _;(conv=>whnf))
        all_goals first
          | (rename_i v2
             refine st_round (v2,k+1) hlt (by dsimp only;omega) ?_ (MemFits.pre 2 ?_)
             · exact fitsGo
             · simp only [autoM,List.take]
               rw [hnx2,hpx]
               rfl)
  · have e:k=l.length:=by omega
    subst e
    have hlen:(l.map Ac.part).length=l.length:=List.length_map ..
    rw [List.take_length]
    have hjl:=join_len (sep:=[44,32]) hszA
    have hT:Ac.text l=if l=[] then [100,114,111,112] else Lib.join (l.map Ac.part) [44,32]:=rfl
    rw [hlen] at hjl
    have hj:=fun m hm=>join_own F u (l.map Ac.part) [44,32] 9 m hm (by simp at hjl;omega) (by omega) 1
    rw [hlen] at hj
    generalize Ac.text l=tx at *
    (repeat' (first|(refine sxA ?_;(first|clear hK K|skip);(first|clear hA hB A B|skip))|((with_reducible refine NCall.isF 97 ?_);(refine (hj _ (MemFits.eq rfl)).mono ?_;rintro _ _ ⟨rfl,rfl⟩;(conv=>whnf)))|((with_reducible refine gX ?_);refine z34 (by kernel_rfl) (by kernel_rfl) ?_)|(refine sxIA ?_;intro K hK;(conv=>whnf))|(refine sxCA ?_;intro A B hA hB;(conv=>whnf);((with_reducible refine NIf.dec (fun _=>?_) (fun _=>?_))<;>(conv=>whnf)))|(refine sxCA ?_;intro A B hA hB;(conv=>whnf))|((with_reducible first|refine NIf.dec (fun _=>?_) (fun _=>?_)|refine NIf.both (fun _=>?_) (fun _=>?_))<;>(conv=>whnf))|((intro _;skip)<;>(conv=>whnf))))
    all_goals first
      | exact ⟨by rw [hT,if_pos (List.eq_nil_of_length_eq_zero (by omega))],MemFits.drop [_] [_]⟩
      | exact ⟨by rw [hT,if_neg (fun e=>by subst e;simp at *)],MemFits.drop [_] [_]⟩
theorem text9_c (F:Heap) (hF:TabF F) (v:Value) (l:List Ac.A) (hv:RowF F 3 (fun x vs=>vs=Ac.actV x) v l) (hn:l.length≤1000) (hl:∀ x∈l,x.in64) (hr:∀ x∈l,x.k=1→0≤x.f∧x.f≤3) :
    NCall Tryz.prog 53 [.hs v l.length] [hpB F] fun r m=>r = .str (Ac.text l)∧m=[hpB F] :=
  (text9_raw F hF v l hv hn hl hr).fits fun r m' h=>⟨r,_,rfl,h.2,h.1,rfl⟩
end Go.Proofs.YtmehinfgdcmmjaaGreatDoor
namespace Go.Proofs.YtmehinfgdcmmjaaGreatDoor
open Go.Sx
set_option maxRecDepth 20000
set_option linter.unusedSimpArgs false
set_option linter.unusedVariables false
set_option maxHeartbeats 2000000
set_option linter.unusedVariables false
def Ru.text (x:Ru.R) (a:Mt.N):List UInt8:=Lib.itoa x.prio++[32]++Mt.text a++[58,32]++Ac.text x.acts
theorem actext_len (l:List Ac.A) (hl:∀ x∈l,x.in64):(Ac.text l).length≤4+42*l.length:=by
  unfold Ac.text
  split
  · simp
  · have:=join_len (sep:=[44,32]) (xs:=l.map Ac.part) (B:=40) fun y hy=>by
      obtain ⟨x,hx,rfl⟩:=List.mem_map.1 hy
      exact Ac.part_len (hl x hx)
    simp only [List.length_map,List.length_cons,List.length_nil] at this
    omega
theorem mttext_len (a:Mt.N) (ha:a.ok):(Mt.text a).length≤300:=by
  have h1:=Mt.partsTo_len a 4
  have h2:=join_len (sep:=[44,32]) (Mt.parts_size ha.1 ha.lt 4 (Nat.le_refl _))
  simp only [List.length_cons,List.length_nil] at h2
  unfold Mt.text
  split
  · simp
  · omega
theorem text10_c (F:Heap) (hF:TabF F) (v:Value) (x:Ru.R) (hv:Ru.RowA F v x) (hx:x.in64) (hn:x.acts.length≤1000) (hr:∀ y∈x.acts,y.k=1→0≤y.f∧y.f≤3) (a:Mt.N) (ha:x.m=a.toM) (hao:a.ok) :
    NCall Tryz.prog 25 [.agg (x.cs v)] [hpB F] fun r m=>r = .str (Ru.text x a)∧m=[hpB F]:=by
  have c1:=itoa_c F hF x.prio hx.1
  have c2:=text_c F hF a hao
  have c3:=text9_c F hF v x.acts hv hn hx.2.2.1 hr
  rw [← ha] at c2
  have l1:=Lib.itoa_length_le x.prio hx.1.1 hx.1.2
  have l2:=mttext_len a hao
  have l3:=actext_len x.acts hx.2.2.1
  have he:Ru.text x a=Lib.itoa x.prio++[32]++Mt.text a++[58,32]++Ac.text x.acts:=rfl
  generalize Ru.text x a=cc at *
  generalize Lib.itoa x.prio=s1 at *
  generalize Mt.text a=s2 at *
  generalize Ac.text x.acts=s3 at *
  refine NCall.fits (K:=fun r m=>r = .str cc∧MemFits m [hpB F]) ?_ fun r m' h=>⟨r,_,rfl,h.2,h.1,rfl⟩
  refine ncall_of Tryz.func25 rfl (by decide) ?_
  simp only [Ru.R.cs,Mt.M.av] at *
  repeat' first|(intro K hK;(with_reducible refine gC ?_);first|refine cS [0] c1 ?_|refine cS [0] c2 ?_|refine cS [0] c3 ?_)|(refine sxO ?_;try clear hK K)|refine sxW ?_ ?_<;>intro _|refine sxV ?_ ?_|(intro K hK _;(conv=>whnf))
  all_goals exact ⟨by rw [he],MemFits.drop [_] [_]⟩
end Go.Proofs.YtmehinfgdcmmjaaGreatDoor
namespace Go.Proofs.YtmehinfgdcmmjaaGreatDoor
open Go.Sx
set_option maxRecDepth 20000
set_option linter.unusedSimpArgs false
set_option linter.unusedVariables false
set_option maxHeartbeats 4000000
set_option linter.unusedVariables false
namespace Cm
def ixN {α:Type} (q:α→Bool):List α→Nat→Int
  | [],_=>-1
  | x::l,n=>if q x=true then (n:Int) else ixN q l (n+1)
def ix {α:Type} (q:α→Bool) (l:List α):Int:=ixN q l 0
theorem ixN_drop {α:Type} (q:α→Bool) {l:List α} {i:Nat} {x:α} (hx:l[i]?=some x):ixN q (l.drop i) i=if q x=true then (i:Int) else ixN q (l.drop (i+1)) (i+1):=by
  obtain ⟨h1,rfl⟩:=List.getElem?_eq_some_iff.1 hx
  rw [List.drop_eq_getElem_cons h1,ixN]
theorem ixN_find {α:Type} (q:α→Bool):∀ (l:List α) (n:Nat) (c:α),l.find? q=some c→∃ i,ixN q l n=((n+i:Nat):Int)∧l[i]?=some c
  | [],n,c,h=>by simp at h
  | x::l,n,c,h=>by
    rw [List.find?_cons] at h
    rw [ixN]
    cases hq:q x with
    | true =>
      rw [hq] at h
      injection h with h
      subst h
      exact ⟨0,by simp,rfl⟩
    | false =>
      rw [hq] at h
      obtain ⟨i,h1,h2⟩:=ixN_find q l (n+1) c h
      exact ⟨i+1,by simp;rw [h1];omega,h2⟩
theorem ix_find {α:Type} {q:α→Bool} {l:List α} {c:α} (h:l.find? q=some c):∃ i:Nat,ix q l=(i:Int)∧l[i]?=some c:=by
  obtain ⟨i,h1,h2⟩:=ixN_find q l 0 c h
  exact ⟨i,by unfold ix;rw [h1];simp,h2⟩
theorem cs_eq (x:Ru.R) (v:Value):x.cs v=[.int .i64 x.prio,.int .i64 x.m.p,.int .i64 x.m.v0,.int .i64 x.m.v1,.int .i64 x.m.v2,.int .i64 x.m.v3,.int .i64 x.m.m0,.int .i64 x.m.m1,.int .i64 x.m.m2,.int .i64 x.m.m3,.hs v x.acts.length]:=rfl
end Cm
theorem indexR_c (F:Heap) (q:Ru.R→Bool) (v:Value) (l:List Ru.R) (hv:Cm.Row F v l) (hn:l.length≤4611686018427387904) (g:FuncId) (captured:List AV)
    (hg:∀ x∈l,∀ A,Cm.ARow F A x.acts→NCall Tryz.prog g ([.agg (x.cs A)]++captured) [hpB F] fun r m=>r = .bool (q x)∧m=[hpB F]) :
    NCall Tryz.prog 62 [.hs v l.length,.fn g [] captured] [hpB F] fun r m=>r = .int .i64 (Cm.ix q l)∧m=[hpB F]:=by
  have hok:=hv.ok
  have hd:=fun i x h=>Cm.ixN_drop q (l:=l) (i:=i) (x:=x) h
  refine ncall_of Tryz.func62 rfl (by decide) ?_
  repeat' first|(refine sxZ ?_;try clear hK K)|refine sxW ?_ ?_<;>intro _|(intro K hK _;(conv=>whnf))
  refine st_auto (α:=Nat) (fun k=>k≤l.length∧Cm.ix q l=Cm.ixN q (l.drop k) k) (fun k=>[.keep,.keep,.keep,.keep,.drop,.drop,.keep,.keep,.set (.int .i64 k),.drop,.drop,.drop,.drop,.drop,.drop,.drop,.drop,.drop,.drop]) (fun _=>[]) (fun k=>l.length - k) 0 ⟨Nat.zero_le _,rfl⟩ ?_ (MemFits.eq rfl) ?_
  · exact fitsGo
  (intro k ⟨hk,he⟩;intro K hK;(conv=>whnf);refine hK _ _ ?_;clear hK K)
  by_cases hlt:k<l.length
  · have hx:l[k]?=some l[k]:=List.getElem?_eq_getElem hlt
    obtain ⟨A,cap,hA,c0,c1,c2,c3,c4,c5,c6,c7,c8,c9,c10⟩:=hv.get hx
    have c:=hg _ (List.getElem_mem hlt) _ hA
    have hoA:=hA.ok
    have hnx:=hd k _ hx
    clear hg hA hd
    generalize l[k]=x at *
    generalize hb:q x=b at *
    clear hb
    obtain ⟨x0,⟨m0,m1,m2,m3,m4,m5,m6,m7,m8⟩,xo⟩:=x
    simp only [Cm.cs_eq,List.cons_append,List.nil_append] at *
    cases b with
    | false =>
      rw [if_neg (by decide)] at hnx
      repeat' first|(intro K hK;(with_reducible refine gC ?_);refine cS [0] c ?_)|(refine sxZ ?_;try clear hK K)|refine sxW ?_ ?_<;>intro _|(intro K hK _;(conv=>whnf))
      refine st_round (k+1) ⟨hlt,he.trans hnx⟩ (by omega) ?_ (MemFits.eq rfl)
      exact fitsGo
    | true =>
      rw [if_pos rfl] at hnx
      rw [he,hnx]
      repeat' first|(intro K hK;(with_reducible refine gC ?_);refine cS [0] c ?_)|(refine sxZ ?_;try clear hK K)|refine sxW ?_ ?_<;>intro _|(intro K hK _;(conv=>whnf))
      exact ⟨rfl,rfl⟩
  · have hkl:k=l.length:=by omega
    subst hkl
    rw [List.drop_length] at he
    rw [he]
    repeat' first|(refine sxZ ?_;try clear hK K)|refine sxW ?_ ?_<;>intro _|(intro K hK _;(conv=>whnf))
    exact ⟨rfl,rfl⟩
end Go.Proofs.YtmehinfgdcmmjaaGreatDoor
namespace Go.Sx
set_option linter.unusedVariables false
open Go.RowKit
@[irreducible] def NCallX (P:Program) (f:FuncId) (args:List AV) (m:List Blk) (K:AV→List Blk→Prop) (Kp:List PanicEntry→List Blk→Prop):Prop :=
  (∀ (us:Array Value) (w:World),(callFunc f us).run P w = .ok (.enter f us) w) ∧
  ∀ w,MemOk m w→Calls P f (denL args).toArray w fun e w'=>(∃ r m',K r m'∧e = .returned r.den∧MemOk m' w'∧Fr (wrs m) w w'∧Fresh (own m) w m') ∨
    ∃ ch m',Kp ch m'∧e = .panicked ch∧MemOk m' w'∧Fr (wrs m) w w'∧Fresh (own m) w m'
theorem NCallX_iff {P:Program} {f:FuncId} {args:List AV} {m:List Blk} {K:AV→List Blk→Prop} {Kp:List PanicEntry→List Blk→Prop}:NCallX P f args m K Kp ↔
  ((∀ (us:Array Value) (w:World),(callFunc f us).run P w = .ok (.enter f us) w) ∧
  ∀ w,MemOk m w→Calls P f (denL args).toArray w fun e w'=>(∃ r m',K r m'∧e = .returned r.den∧MemOk m' w'∧Fr (wrs m) w w'∧Fresh (own m) w m') ∨
    ∃ ch m',Kp ch m'∧e = .panicked ch∧MemOk m' w'∧Fr (wrs m) w w'∧Fresh (own m) w m'):=by unfold NCallX;exact Iff.rfl
theorem NCallX.of {P:Program} {f:FuncId} {args:List AV} {m:List Blk} {K:AV→List Blk→Prop} {Kp:List PanicEntry→List Blk→Prop} (h:NCall P f args m K):NCallX P f args m K Kp:=by
  rw [NCall_iff] at h
  rw [NCallX_iff]
  exact ⟨h.1,fun w hm=>(h.2 w hm).mono fun e w' hq=>.inl hq⟩
def opX (P:Program) (sl:List AV) (m:List Blk) (op:Op) (K:AV→List Blk→Prop) (Kp:List PanicEntry→List Blk→Prop):Prop :=
  match op with
  | .call c =>
    match c.callee with
    | .value f=>evK sl f fun f=>match f with
      | .fn g first captured=>evLK sl c.args.toList fun xs=>NCallX P g (first++xs++captured) m K Kp
      | _=>False
    | _=>opM P sl m op K
  | .panic x=>evK sl x fun x=>match x with
    | .ifc t y=>Kp [{ v:=.iface t y.den,recovered:=false }] m
    | _=>False
  | .makeInterface t x=>evK sl x fun y=>match P.underlying t with
    | some (.int _)=>K (.ifc t y) m
    | _=>False
  | .binOp op t x y t2=>evK sl x fun u=>match u with
    | .ifc _ _=>match op,y,P.underlying t with
      | .eql,.const .nilIface,some (.interface _)=>K (.bool false) m
      | .neq,.const .nilIface,some (.interface _)=>K (.bool true) m
      | _,_,_=>False
    | .raw .nilIface=>match op,y,P.underlying t with
      | .eql,.const .nilIface,some (.interface _)=>K (.bool true) m
      | .neq,.const .nilIface,some (.interface _)=>K (.bool false) m
      | _,_,_=>False
    | _=>opM P sl m (.binOp op t x y t2) K
  | .convert src dst x=>evK sl x fun u=>match u,P.underlying src,P.underlying dst with
    | .str s,some .string,some (.slice e)=>match P.underlying e with
      | some (.int .u8)=>lenLK m lits fun ln=>∀ b cap,appK m ⟨⟨b,0,none⟩,s.map fun c=>.int .u8 c.toNat,.ro (.slice (some ⟨b,0,none⟩) s.length cap) 1 s.length⟩ fun m'=>K (.sl ln (.slice (some ⟨b,0,none⟩) s.length cap) s.length) m'
      | _=>False
    | _,_,_=>opM P sl m (.convert src dst x) K
  | .typeAssert x _ to ok=>evK sl x fun u=>match u,ok,P.underlying to with
    | .ifc t1 v,true,some (.int _)=>match Nat.decEq t1 to with
      | .isTrue _=>K (.tup [v,.bool true]) m
      | .isFalse _=>False
    | _,_,_=>False
  | op=>opM P sl m op K
def opsX (P:Program) (ops:Array Oper):List Oper→List AV→List Blk→Post→Prop
  | [],sl,m,Q=>Q .normal sl m
  | o::rest,sl,m,Q =>
    match o.guard with
    | none=>opX P sl m o.op (fun v m'=>dstK sl o.dst v fun sl'=>opsX P ops rest sl' m' Q) fun ch m'=>Q (.panic ch) sl m'
    | some (j,want)=>guardK ops sl j want
      (opX P sl m o.op (fun v m'=>dstK sl o.dst v fun sl'=>opsX P ops rest sl' m' Q) fun ch m'=>Q (.panic ch) sl m')
      (dstK sl o.dst (.raw undef) fun sl'=>opsX P ops rest sl' m Q)
@[irreducible] def NDrawX (P:Program) (ops:Array Oper) (sl:List AV) (m:List Blk) (Q:Post):Prop :=
  ∀ (id:Nat) (w0:World) (S:Own) (a:Act) (w:World),Sim w0 S sl m a w→(Code.region id ops true).wp P (fun e a w=>∃ sl m,Q e sl m∧Sim w0 S sl m a w) a w
def codeX (P:Program):Code→List AV→List Blk→Post→Prop
  | .skip,sl,m,Q=>Q .normal sl m
  | .region _ ops draw,sl,m,Q =>
    match draw with
    | false=>opsX P ops ops.toList sl m Q
    | true=>NDrawX P ops sl m Q
  | .seq a b,sl,m,Q=>codeX P a sl m fun e sl m=>match e with
    | .normal=>codeX P b sl m Q
    | e=>Q e sl m
  | .cond c a b,sl,m,Q=>evK sl c fun v=>match v with
    | .bool x=>NIf x (codeX P a sl m Q) (codeX P b sl m Q)
    | _=>False
  | .block id c,sl,m,Q=>codeX P c sl m fun e sl m=>match e with
    | .exit j=>match Nat.decEq j id with
      | .isTrue _=>Q .normal sl m
      | .isFalse _=>Q (.exit j) sl m
    | e=>Q e sl m
  | .loop c,sl,m,Q=>NLoop (codeX P c) sl m Q
  | .exit id,sl,m,Q=>Q (.exit id) sl m
  | .ret,sl,m,Q=>Q .ret sl m
  | .scope c,sl,m,Q=>codeX P c sl m fun e sl m=>match e with
    | .goto _=>False
    | e=>Q e sl m
  | .label _,sl,m,Q=>Q .normal sl m
  | _,_,_,_=>False
def funcX (P:Program) (fn:Func) (args:List AV) (m:List Blk) (R:AV→List Blk→Prop) (Rp:List PanicEntry→List Blk→Prop):Prop :=
  match fn.body with
  | some c=>argK args fn.ntmps fun sl=>codeX P c sl m fun e sl m' =>
    match e with
    | .normal=>resK P m' sl fn.results.toList fun xs=>retK xs fun r=>R r m'
    | .ret=>resK P m' sl fn.results.toList fun xs=>retK xs fun r=>R r m'
    | .panic ch=>Rp ch m'
    | _=>False
  | none=>False
section
variable {P:Program}
theorem opX_spec {sl:List AV} {m:List Blk} {a:Act} {w w0:World} {S:Own} (hs:SlotsOk sl a.tmps) (hm:MemOk m w) (hf:Fr S.w w0 w) (hr:Fresh S w0 m) {o:Oper} {K:AV→List Blk→Prop} {Kp:List PanicEntry→List Blk→Prop}
    (h:opX P sl m o.op K Kp) {next:Act→World→Prop} {Q:Exit→Act→World→Prop} (hn:∀ v m' w',Left S w0 K v m' w'→next (a.put o.dst v.den) w') (hp:∀ ch m' w',Left S w0 (fun _ m=>Kp ch m) .any m' w'→Q (.panic ch) a w'):o.wp P a w next Q:=by
  obtain ⟨dst,op,ty,pos,after,guard⟩:=o
  have plain:opM P sl m op K→Oper.wp P ⟨dst,op,ty,pos,after,guard⟩ a w next Q:=fun h=>opM_spec (o:=⟨dst,op,ty,pos,after,guard⟩) hs hm hf hr h hn
  have fresh_of:∀ {m':List Blk},Fresh (own m) w m'→Fresh S w0 m':=fun hr'=>⟨fun b hb=>by
      rcases hr'.1 b hb with h | h
      · exact hr.1 b h
      · exact .inr (Nat.le_trans hf.size h),fun b hb=>by
      rcases hr'.2 b hb with h | h
      · exact hr.2 b h
      · exact .inr (Nat.le_trans hf.size h)⟩
  cases op with
  | call c =>
    obtain ⟨callee,args,tys⟩:=c
    cases callee with
    | value f =>
      simp only [opX] at h
      obtain ⟨u,h1,h2⟩:=evK_spec hs h
      cases u<;>try exact h1.elim
      rename_i g first captured
      obtain ⟨xs,h3,h4⟩:=evLK_spec hs h1
      rw [NCallX_iff] at h3
      obtain ⟨h5,h6⟩:=h3
      unfold Oper.wp
      have:(execOp a.eval { dst:=dst,op:=.call { callee:=.value f,args:=args,argTypes:=tys },type:=ty,pos:=pos,after:=after,guard:=guard }).run P w = .ok (.enter g (denL (first++xs++captured)).toArray) w:=by
        simp only [execOp,resolve,Sem.run_bind,h2,AV.den,Deferred.ofValue,Sem.run_pure,Result.andThen_ok,invoke,map_toArray_eval h4,h5]
        simp [denL_append]
      rw [this,Oper.upon_enter]
      refine (h6 w hm).mono fun e w' h7=>?_
      rcases h7 with ⟨r,m',hK,rfl,hm',hf',hr'⟩ | ⟨ch,m',hK,rfl,hm',hf',hr'⟩
      · exact hn r m' w' ⟨hK,hm',hf.then hf' hr.1,fresh_of hr'⟩
      · exact hp ch m' w' ⟨hK,hm',hf.then hf' hr.1,fresh_of hr'⟩
    | _=>exact plain h
  | panic x =>
    simp only [opX] at h
    obtain ⟨u,h1,h2⟩:=evK_spec hs h
    cases u<;>try exact h1.elim
    rename_i t y
    unfold Oper.wp
    have:(execOp a.eval { dst:=dst,op:=.panic x,type:=ty,pos:=pos,after:=after,guard:=guard }).run P w = .halt (.panic (.iface t y.den)) w:=by
      simp only [execOp,h2,AV.den]
      rfl
    rw [this,Oper.upon_panic]
    exact hp _ m w ⟨h1,hm,hf,hr⟩
  | makeInterface t x =>
    simp only [opX] at h
    obtain ⟨u,h1,h2⟩:=evK_spec hs h
    split at h1
    · rename_i k hk
      unfold Oper.wp
      have:(execOp a.eval { dst:=dst,op:=.makeInterface t x,type:=ty,pos:=pos,after:=after,guard:=guard }).run P w = .ok (.value (AV.ifc t u).den) w:=by
        simp only [execOp,h2,AV.den,Instr.makeInterface,Sem.run_bind,run_underlying hk,Result.andThen_ok]
        rfl
      rw [this,Oper.upon_value]
      exact hn (.ifc t u) m w ⟨h1,hm,hf,hr⟩
    · exact h1.elim
  | binOp op t x y t2 =>
    simp only [opX] at h
    obtain ⟨u,h1,h2⟩:=evK_spec hs h
    split at h1
    · rename_i t1 v
      split at h1
      · rename_i ms hu
        have hm2:P.underlying t=some (.interface (P.methodsAt t)):=by rw [hu];unfold Program.methodsAt;rw [hu]
        unfold Oper.wp
        have:(execOp a.eval { dst:=dst,op:=.binOp .eql t x (.const .nilIface) t2,type:=ty,pos:=pos,after:=after,guard:=guard }).run P w = .ok (.value (AV.bool false).den) w:=by
          have h3:a.eval (.const .nilIface) = .nilIface:=rfl
          have h4:eqGuard .eql t x (.const .nilIface) (.iface t1 v.den) .nilIface=pure ():=rfl
          simp only [execOp,h2,h3,h4,AV.den,Sem.run_bind,Sem.run_pure,Result.andThen_ok,run_eql_held_nil w t t1 v.den hm2]
        rw [this,Oper.upon_value]
        exact hn (.bool false) m w ⟨h1,hm,hf,hr⟩
      · rename_i ms hu
        have hm2:P.underlying t=some (.interface (P.methodsAt t)):=by rw [hu];unfold Program.methodsAt;rw [hu]
        unfold Oper.wp
        have:(execOp a.eval { dst:=dst,op:=.binOp .neq t x (.const .nilIface) t2,type:=ty,pos:=pos,after:=after,guard:=guard }).run P w = .ok (.value (AV.bool true).den) w:=by
          have h3:a.eval (.const .nilIface) = .nilIface:=rfl
          have h4:eqGuard .neq t x (.const .nilIface) (.iface t1 v.den) .nilIface=pure ():=rfl
          simp only [execOp,h2,h3,h4,AV.den,Sem.run_bind,Sem.run_pure,Result.andThen_ok,run_neq_held_nil w t t1 v.den hm2]
        rw [this,Oper.upon_value]
        exact hn (.bool true) m w ⟨h1,hm,hf,hr⟩
      · exact h1.elim
    · split at h1
      · rename_i ms hu
        have hm2:P.underlying t=some (.interface (P.methodsAt t)):=by rw [hu];unfold Program.methodsAt;rw [hu]
        unfold Oper.wp
        have:(execOp a.eval { dst:=dst,op:=.binOp .eql t x (.const .nilIface) t2,type:=ty,pos:=pos,after:=after,guard:=guard }).run P w = .ok (.value (AV.bool true).den) w:=by
          have h3:a.eval (.const .nilIface) = .nilIface:=rfl
          have h4:eqGuard .eql t x (.const .nilIface) .nilIface .nilIface=pure ():=by cases x<;>rfl
          simp only [execOp,h2,h3,h4,AV.den,Sem.run_bind,Sem.run_pure,Result.andThen_ok,run_eql_nil_nil w t hm2]
        rw [this,Oper.upon_value]
        exact hn (.bool true) m w ⟨h1,hm,hf,hr⟩
      · rename_i ms hu
        have hm2:P.underlying t=some (.interface (P.methodsAt t)):=by rw [hu];unfold Program.methodsAt;rw [hu]
        unfold Oper.wp
        have:(execOp a.eval { dst:=dst,op:=.binOp .neq t x (.const .nilIface) t2,type:=ty,pos:=pos,after:=after,guard:=guard }).run P w = .ok (.value (AV.bool false).den) w:=by
          have h3:a.eval (.const .nilIface) = .nilIface:=rfl
          have h4:eqGuard .neq t x (.const .nilIface) .nilIface .nilIface=pure ():=by cases x<;>rfl
          simp only [execOp,h2,h3,h4,AV.den,Sem.run_bind,Sem.run_pure,Result.andThen_ok,run_neq_nil_nil w t hm2]
        rw [this,Oper.upon_value]
        exact hn (.bool false) m w ⟨h1,hm,hf,hr⟩
      · exact h1.elim
    · exact plain h1
  | convert st dt x =>
    simp only [opX] at h
    obtain ⟨u,h1,h2⟩:=evK_spec hs h
    split at h1
    · rename_i s e hsrc hdst
      split at h1
      · rename_i he
        have h3:=lenLK_spec h1
        have h4:=appK_spec (h3 w.heap.size (grownCap w s.length 0 e))
        have hrun:=Lib.run_convert_string_bytes (P:=P) w st dt e ⟨s.toArray⟩ hsrc hdst he
        have hsz:(⟨s.toArray⟩:ByteArray).size=s.length:=by simp [ByteArray.size]
        rw [hsz] at hrun
        unfold Oper.wp
        have:(execOp a.eval { dst:=dst,op:=.convert st dt x,type:=ty,pos:=pos,after:=after,guard:=guard }).run P w = .ok (.value (AV.sl m.length (.slice (some ⟨w.heap.size,0,none⟩) s.length (grownCap w s.length 0 e)) s.length).den) (Lib.bytesWorld w e ⟨s.toArray⟩):=by
          simp only [execOp,h2,AV.den,Sem.run_bind,hrun,Result.andThen_ok]
          rfl
        rw [this,Oper.upon_value]
        have hden:∀ j u,(denL (s.map fun c=>AV.int .u8 c.toNat))[j]?=some u→(Lib.bytesWorld w e ⟨s.toArray⟩).cell? (Addr.add ⟨w.heap.size,0,none⟩ j)=some u:=fun j u hu=>by
          have hdl:denL (s.map fun c=>AV.int .u8 c.toNat)=s.map fun c=>Value.int .u8 c.toNat:=by
            clear hrun hsz h4 h3 h1 h2 this hu
            induction s with
            | nil=>rfl
            | cons c l ih=>simp only [List.map_cons,denL,AV.den];rw [ih]
          rw [hdl,List.getElem?_map] at hu
          cases hc:s[j]? with
          | none=>rw [hc] at hu;cases hu
          | some c =>
            rw [hc] at hu
            cases hu
            have hj:=(List.getElem?_eq_some_iff.1 hc).1
            have:=Lib.bytesWorld_cell w e ⟨s.toArray⟩ j (by rw [hsz];exact hj)
            rw [show (Addr.add ⟨w.heap.size,0,none⟩ j)=(⟨w.heap.size,j,none⟩:Addr) by cases j<;>simp [Addr.add],this]
            have hg:s.getD j 0=c:=by rw [List.getD_eq_getElem?_getD,hc];rfl
            show some (Value.int .u8 ((s.getD j 0).toNat:Int))=_
            rw [hg]
        refine hn _ _ _ ⟨h4,?_,?_,?_⟩
        · refine hm.push (by rw [Lib.bytesWorld_size];omega) (fun k hk b hb=>Lib.bytesWorld_at_old w e _ b ((hm.holds k hk).lt hb)) ⟨by simp,some ⟨w.heap.size,0,none⟩,_,rfl,?_,by simp,fun _=>⟨rfl,by rw [Lib.bytesWorld_size];simp,hden⟩⟩ (fun b hb=>?_)
          · exact grownCap_ge w s.length 0 e
          · simp [Blk.foot,Blk.bn] at hb
            omega
        · exact hf.then (T:=fun _=>False) ⟨rfl,rfl,rfl,by rw [Lib.bytesWorld_size];omega,fun k hk _=>Lib.bytesWorld_at_old w e _ k hk⟩ fun i hi=>hi.elim
        · refine hr.push rfl fun b hb=>?_
          simp [Blk.bn] at hb
          have:=hf.size
          omega
      · exact h1.elim
    · exact plain h1
  | typeAssert x xt to ok =>
    simp only [opX] at h
    obtain ⟨u,h1,h2⟩:=evK_spec hs h
    split at h1
    · rename_i t1 v k hk
      split at h1
      · rename_i he _
        subst he
        unfold Oper.wp
        have:(execOp a.eval { dst:=dst,op:=.typeAssert x xt t1 true,type:=ty,pos:=pos,after:=after,guard:=guard }).run P w = .ok (.value (AV.tup [v,.bool true]).den) w:=by
          simp only [execOp,h2,AV.den,Instr.typeAssert,Sem.run_bind,run_underlying hk,Result.andThen_ok,if_true]
          rfl
        rw [this,Oper.upon_value]
        exact hn (.tup [v,.bool true]) m w ⟨h1,hm,hf,hr⟩
      · exact h1.elim
    · exact h1.elim
  | _=>exact plain h
theorem opsX_sound {w0:World} {S:Own} {ops:Array Oper} {l:List Oper} {sl:List AV} {m:List Blk} {Q:Post} (h:opsX P ops l sl m Q) {a:Act} {w:World} (hsim:Sim w0 S sl m a w)
    {R:Exit→Act→World→Prop} (hk:∀ e sl m a w,Q e sl m→Sim w0 S sl m a w→R e a w):wpList P ops R l a w:=by
  induction l generalizing sl m a w with
  | nil=>exact hk _ _ _ _ _ h hsim
  | cons o rest ih =>
    simp only [opsX] at h
    have run:(opX P sl m o.op (fun v m'=>dstK sl o.dst v fun sl'=>opsX P ops rest sl' m' Q) fun ch m'=>Q (.panic ch) sl m')→o.wp P a w (wpList P ops R rest) R:=fun h =>
      opX_spec hsim.slots hsim.mem hsim.fr hsim.fresh h (fun v m' w' hl=>by
        obtain ⟨sl',h1,h2⟩:=dstK_spec hl.k hsim.slots
        exact ih h1 (hsim.step h2 hl.mem hl.fr hl.fresh)) fun ch m' w' hl=>hk _ _ _ _ _ hl.k ⟨hsim.slots,hsim.defers,hl.mem,hl.fr,hl.fresh⟩
    unfold wpList
    split at h
    · rename_i hg
      rw [if_pos (by simp [Region.wanted,hg])]
      exact .inl (run h)
    · rename_i j want hg
      rcases guardK_spec h hsim.slots hg with ⟨h1,h2⟩ | ⟨h1,h2⟩
      · rw [if_pos h1]
        exact .inl (run h2)
      · rw [if_neg (by simp [h1])]
        obtain ⟨sl',h3,h4⟩:=dstK_spec h2 hsim.slots
        exact ih h3 (hsim.step h4 hsim.mem hsim.fr hsim.fresh)
theorem codeX_sound {w0:World} {S:Own} {c:Code}:∀ {sl:List AV} {m:List Blk} {Q:Post},codeX P c sl m Q→∀ {a:Act} {w:World},Sim w0 S sl m a w →
    c.wp P (fun e a w=>∃ sl m,Q e sl m∧Sim w0 S sl m a w) a w:=by
  induction c with
  | skip=>intro sl m Q h a w hs;exact wp_skip ⟨_,_,h,hs⟩
  | region id ops draw =>
    intro sl m Q h a w hs
    cases draw with
    | false =>
      exact wp_region_list (opsX_sound h hs fun e sl m a w h1 h2=>⟨sl,m,h1,h2⟩)
    | true =>
      simp only [codeX] at h
      unfold NDrawX at h
      exact h id w0 S a w hs
  | seq x y ihx ihy =>
    intro sl m Q h a w hs
    refine wp_seq (wp_mono (ihx h hs) fun e a w hq=>?_)
    obtain ⟨sl',m',h1,h2⟩:=hq
    cases e with
    | normal=>exact ihy h1 h2
    | _=>exact ⟨sl',m',h1,h2⟩
  | cond c x y ihx ihy =>
    intro sl m Q h a w hs
    obtain ⟨v,h1,h2⟩:=evK_spec hs.slots h
    cases v<;>try exact h1.elim
    rename_i t
    simp only [NIf_iff] at h1
    refine wp_cond_split (t:=t) (by rw [h2];rfl) (fun ht=>ihx (h1.1 ht) hs) (fun ht=>ihy (h1.2 ht) hs)
  | block id c ih =>
    intro sl m Q h a w hs
    refine wp_block (wp_mono (ih h hs) fun e a w hq=>?_)
    obtain ⟨sl',m',h1,h2⟩:=hq
    cases e with
    | exit j =>
      simp only [Exit.inBlock]
      split at h1
      · rename_i hj;injection hj with hj;subst hj
        split at h1
        · rename_i heq _;rw [if_pos heq];exact ⟨sl',m',h1,h2⟩
        · rename_i heq _;rw [if_neg heq];exact ⟨sl',m',h1,h2⟩
      · rename_i hne;exact (hne _ rfl).elim
    | _=>exact ⟨sl',m',h1,h2⟩
  | loop c ih =>
    intro sl m Q h a w hs
    simp only [codeX] at h
    unfold NLoop at h
    rcases h with ⟨α,ok,s,mm,μ,hin,hround⟩ | ⟨n,hn⟩
    rotate_left
    · refine wp_loop_rounds n ?_
      induction n generalizing sl m a w with
      | zero=>exact hn.elim
      | succ n ihn =>
        rw [rounds_succ]
        refine wp_mono (ih hn hs) fun e a w hq=>?_
        obtain ⟨sl',m',h3,h4⟩:=hq
        cases e with
        | normal=>exact ihn h4 h3
        | _=>exact ⟨sl',m',h3,h4⟩
    obtain ⟨x0,h0,h1,h2⟩:=hin ⟨w,hs.mem⟩
    refine wp_loop_ghost (fun n a w=>∃ x,ok x∧μ x=n∧Sim w0 S (s x) (mm x) a w) (μ x0) ⟨x0,h0,rfl,hs.fits h1 h2⟩ ?_
    rintro n a w ⟨x,hx,rfl,hsx⟩
    refine wp_mono (ih (hround x hx) hsx) fun e a w hq=>?_
    obtain ⟨sl',m',h3,h4⟩:=hq
    cases e with
    | normal =>
      obtain ⟨x',h5,h6,h7,h8⟩:=h3.get ⟨w,h4.mem⟩
      exact ⟨μ x',h6,x',h5,rfl,h4.fits h7 h8⟩
    | _=>exact ⟨sl',m',h3,h4⟩
  | rangeFunc=>intro sl m Q h;exact h.elim
  | exit id=>intro sl m Q h a w hs;exact wp_exit ⟨_,_,h,hs⟩
  | scope c ih =>
    intro sl m Q h a w hs
    refine wp_scope_straight (wp_mono (ih h hs) fun e a w hq=>?_)
    obtain ⟨sl',m',h1,h2⟩:=hq
    cases e with
    | goto l=>exact h1.elim
    | _=>exact ⟨sl',m',h1,h2⟩
  | label l=>intro sl m Q h a w hs;exact wp_label ⟨_,_,h,hs⟩
  | goto l=>intro sl m Q h;exact h.elim
  | ret=>intro sl m Q h a w hs;exact wp_ret ⟨_,_,h,hs⟩
  | refuse why=>intro sl m Q h;exact h.elim
theorem ncallx_of {f : FuncId} {fn : Func} (hf : P.funcs[f]? = some fn) (hb : fn.body.isSome = true) (hn : (fn.name == "runtime.NumGoroutine") = false) {args : List AV} {m : List Blk} {K : AV → List Blk → Prop} {Kp : List PanicEntry → List Blk → Prop}
    (h:funcX P fn args m K Kp):NCallX P f args m K Kp:=by
  rw [NCallX_iff]
  refine ⟨enters_of hf hb hn,fun w hm=>?_⟩
  unfold funcX at h
  split at h
  · rename_i c hc
    obtain ⟨hlen,h⟩:=argK_spec h
    have hsim:Sim w (own m) (args++List.replicate (fn.ntmps - args.length) .any) m { tmps:=(denL args).toArray++Array.replicate (fn.ntmps - (denL args).toArray.size) undef,defers:=[] } w :=
      ⟨args_ok hlen,rfl,hm,Fr.refl _ w,fun b hb=>.inl hb,fun b hb=>.inl hb⟩
    refine calls_of_wp hf hc (wp_mono (codeX_sound h hsim) fun e a w' hq=>?_)
    obtain ⟨sl',m',h1,h2⟩:=hq
    cases e with
    | normal =>
      obtain ⟨xs,h3,h4⟩:=results_spec h2.slots h1
      exact ⟨h2.defers,_,h4 w' h2.mem,.inl ⟨_,_,retK_spec h3,rfl,h2.mem,h2.fr,h2.fresh⟩⟩
    | ret =>
      obtain ⟨xs,h3,h4⟩:=results_spec h2.slots h1
      exact ⟨h2.defers,_,h4 w' h2.mem,.inl ⟨_,_,retK_spec h3,rfl,h2.mem,h2.fr,h2.fresh⟩⟩
    | exit id=>exact h1.elim
    | goto l=>exact h1.elim
    | panic ch=>exact ⟨h2.defers,.inr ⟨_,_,h1,rfl,h2.mem,h2.fr,h2.fresh⟩⟩
    | outgrown=>exact h1.elim
  · exact h.elim
theorem sub_frame {m mL:List Blk} (idx:List Nat) (hn:idx.Nodup) (hmL:idx.map (fun i=>m[i]?)=mL.map some) :
    (∀ w,MemOk m w→MemOk mL w∧∀ b,wrs mL b→wrs m b)∧∀ bs:List Blk,idx.length≤bs.length→∀ w w',MemOk m w→MemOk bs w'→Fr (wrs mL) w w'→Fresh (own mL) w bs→MemOk (rep m idx bs) w'∧Fresh (own m) w (rep m idx bs):=by
  have hlen:idx.length=mL.length:=by simpa using congrArg List.length hmL
  have hat:∀ t:Nat,∀ k,mL[t]?=some k→∃ i,idx[t]?=some i∧m[i]?=some k:=fun t k hk=>by
    have e:=congrArg (fun l=>l[t]?) hmL
    simp only [List.getElem?_map,hk,Option.map_some] at e
    rcases hi:idx[t]? with _ | i
    · rw [hi] at e;simp at e
    · rw [hi] at e
      simp only [Option.map_some,Option.some.injEq] at e
      exact ⟨i,rfl,e⟩
  have hlt:∀ i∈idx,i<m.length:=fun i hi=>by
    obtain ⟨t,ht,rfl⟩:=List.getElem_of_mem hi
    obtain ⟨i',h1,h2⟩:=hat t mL[t] (List.getElem?_eq_getElem (by omega))
    rw [List.getElem?_eq_getElem ht] at h1
    cases h1
    exact (List.getElem?_eq_some_iff.1 h2).1
  have hmem:∀ k∈mL,∃ i∈idx,m[i]?=some k:=fun k hk=>by
    obtain ⟨t,ht,rfl⟩:=List.getElem_of_mem hk
    obtain ⟨i,h1,h2⟩:=hat t _ (List.getElem?_eq_getElem ht)
    exact ⟨i,List.mem_of_getElem? h1,h2⟩
  have hwrs:∀ b,wrs mL b→wrs m b:=fun b ⟨k,hk,h1,h2⟩=>by
    obtain ⟨i,_,h3⟩:=hmem k hk
    exact ⟨k,List.mem_of_getElem? h3,h1,h2⟩
  refine ⟨(fun w hm=>⟨⟨fun k hk=>?_,sep_of fun i j x y hij hx hy=>?_⟩,hwrs⟩),?_⟩
  · obtain ⟨i,_,h3⟩:=hmem k hk
    exact hm.holds k (List.mem_of_getElem? h3)
  · obtain ⟨i',h1,h2⟩:=hat i x hx
    obtain ⟨j',h3,h4⟩:=hat j y hy
    refine sep_at hm.sep (fun e=>?_) h2 h4
    subst e
    obtain ⟨hi,e1⟩:=List.getElem?_eq_some_iff.1 h1
    obtain ⟨hj,e2⟩:=List.getElem?_eq_some_iff.1 h3
    exact List.pairwise_iff_getElem.1 hn i j hi hj hij (e1.trans e2.symm)
  intro bs hl w w' hm hm' hf hfr
  have hylt:∀ y∈m,∀ b,y.foot b→b<w.heap.size:=fun y hy b hb=>(hm.holds y hy).lt hb
  have hold:∀ j y,j ∉ idx→m[j]?=some y→∀ b,y.foot b→¬ wrs mL b:=fun j y hj hy b hb ⟨k,hk,hkw,hkb⟩=>by
    obtain ⟨i,hi,h3⟩:=hmem k hk
    exact sep_at hm.sep (i:=i) (j:=j) (fun e=>hj (e ▸ hi)) h3 hy (.inl hkw) b hkb hb
  have hfoot:∀ j y,j ∉ idx→m[j]?=some y→y.wr=true→∀ b,y.foot b→¬ foots mL b:=fun j y hj hy hyw b hb ⟨k,hk,hkb⟩=>by
    obtain ⟨i,hi,h3⟩:=hmem k hk
    exact sep_at hm.sep (i:=i) (j:=j) (fun e=>hj (e ▸ hi)) h3 hy (.inr hyw) b hkb hb
  have hbo:∀ t x j y,bs[t]?=some x→j ∉ idx→m[j]?=some y→Sep x y:=fun t x j y hx hj hy=>fun hww b hb1 hb2=>by
    have hnew:b<w.heap.size:=hylt y (List.mem_of_getElem? hy) b hb2
    rcases hww with hw | hw
    · rcases hfr.1 b ⟨x,List.mem_of_getElem? hx,hw,hb1⟩ with h3 | h3
      · exact hold j y hj hy b hb2 h3
      · omega
    · rcases hfr.2 b ⟨x,List.mem_of_getElem? hx,hb1⟩ with h3 | h3
      · exact hfoot j y hj hy hw b hb2 h3
      · omega
  have hfoots:∀ b,foots mL b→foots m b:=fun b ⟨k,hk,hkb⟩=>by
    obtain ⟨i,_,h3⟩:=hmem k hk
    exact ⟨k,List.mem_of_getElem? h3,hkb⟩
  refine ⟨⟨fun k hk=>?_,sep_of fun i j x y hij hx hy=>?_⟩,fun b ⟨k,hk,hkw,hkb⟩=>?_,fun b ⟨k,hk,hkb⟩=>?_⟩
  · obtain ⟨j,hj⟩:=List.getElem?_of_mem hk
    rcases rep_at idx m bs j k hn hlt hl hj with ⟨t,ht,_⟩ | ⟨h3,h4⟩
    · exact hm'.holds k (List.mem_of_getElem? ht)
    · refine (hm.holds k (List.mem_of_getElem? h4)).keep hf.size fun b hb=>?_
      exact hf.block b (hylt k (List.mem_of_getElem? h4) b hb) (hold j k h3 h4 b hb)
  · rcases rep_at idx m bs i x hn hlt hl hx with ⟨t,ht,hti⟩ | ⟨h3,h4⟩
    · rcases rep_at idx m bs j y hn hlt hl hy with ⟨u,hu,huj⟩ | ⟨h5,h6⟩
      · exact sep_at hm'.sep (fun e=>by subst e;omega) ht hu
      · exact hbo t x j y ht h5 h6
    · rcases rep_at idx m bs j y hn hlt hl hy with ⟨u,hu,huj⟩ | ⟨h5,h6⟩
      · exact (hbo u y i x hu h3 h4).symm
      · exact sep_at hm.sep (by omega) h4 h6
  · obtain ⟨j,hj⟩:=List.getElem?_of_mem hk
    rcases rep_at idx m bs j k hn hlt hl hj with ⟨t,ht,_⟩ | ⟨h3,h4⟩
    · rcases hfr.1 b ⟨k,List.mem_of_getElem? ht,hkw,hkb⟩ with h5 | h5
      · exact .inl (hwrs b h5)
      · exact .inr h5
    · exact .inl ⟨k,List.mem_of_getElem? h4,hkw,hkb⟩
  · obtain ⟨j,hj⟩:=List.getElem?_of_mem hk
    rcases rep_at idx m bs j k hn hlt hl hj with ⟨t,ht,_⟩ | ⟨h3,h4⟩
    · rcases hfr.2 b ⟨k,List.mem_of_getElem? ht,hkb⟩ with h5 | h5
      · exact .inl (hfoots b h5)
      · exact .inr h5
    · exact .inl ⟨k,List.mem_of_getElem? h4,hkb⟩
theorem NCallX.frame {f:FuncId} {args args':List AV} {m mL:List Blk} {K KL:AV→List Blk→Prop} {Kp KpL:List PanicEntry→List Blk→Prop} (h:NCallX P f args' mL KL KpL) (hargs:denL args'=denL args)
    (hin:∀ w,MemOk m w→MemOk mL w∧∀ b,wrs mL b→wrs m b)
    (hK:∀ r mL',KL r mL'→∃ r' m',r'.den=r.den∧K r' m'∧∀ w w',MemOk m w→MemOk mL' w'→Fr (wrs mL) w w'→Fresh (own mL) w mL'→MemOk m' w'∧Fresh (own m) w m')
    (hP:∀ ch mL',KpL ch mL'→∃ m',Kp ch m'∧∀ w w',MemOk m w→MemOk mL' w'→Fr (wrs mL) w w'→Fresh (own mL) w mL'→MemOk m' w'∧Fresh (own m) w m'):NCallX P f args m K Kp:=by
  rw [NCallX_iff] at h ⊢
  refine ⟨h.1,fun w hm=>?_⟩
  have fr:∀ {w':World},Fr (wrs mL) w w'→Fr (wrs m) w w':=fun h4=>⟨h4.os,h4.tape,h4.output,h4.size,fun k hk hs=>h4.block k hk (fun ht=>hs ((hin w hm).2 k ht))⟩
  have h2:=(h.2 w (hin w hm).1).mono (R':=fun e w'=>(∃ r m',K r m'∧e = .returned r.den∧MemOk m' w'∧Fr (wrs m) w w'∧Fresh (own m) w m')∨∃ ch m',Kp ch m'∧e = .panicked ch∧MemOk m' w'∧Fr (wrs m) w w'∧Fresh (own m) w m') fun e w' hq=>by
    rcases hq with ⟨r,mL',h1,rfl,h3,h4,h5⟩ | ⟨ch,mL',h1,rfl,h3,h4,h5⟩
    · obtain ⟨r',m',h6,h7,h8⟩:=hK r mL' h1
      obtain ⟨h9,h10⟩:=h8 w w' hm h3 h4 h5
      exact .inl ⟨r',m',h7,by rw [h6],h9,fr h4,h10⟩
    · obtain ⟨m',h7,h8⟩:=hP ch mL' h1
      obtain ⟨h9,h10⟩:=h8 w w' hm h3 h4 h5
      exact .inr ⟨ch,m',h7,rfl,h9,fr h4,h10⟩
  rw [hargs] at h2
  exact h2
theorem NCallX.subw {f:FuncId} {args:List AV} {m:List Blk} {K KL:AV→List Blk→Prop} {Kp KpL:List PanicEntry→List Blk→Prop} (idx:List Nat) (args':List AV) (mL:List Blk) (h:NCallX P f args' mL KL KpL) (hargs:denL args'=denL args)
    (hn:idx.Nodup) (hmL:idx.map (fun i=>m[i]?)=mL.map some)
    (hK:∀ r bs,KL r bs→idx.length≤bs.length∧∃ r',r'.den=r.den∧repK m idx bs (K r'))
    (hP:∀ ch bs,KpL ch bs→idx.length≤bs.length∧repK m idx bs (Kp ch)):NCallX P f args m K Kp:=by
  obtain ⟨h1,h2⟩:=sub_frame (mL:=mL) idx hn hmL
  refine h.frame hargs h1 (fun r bs hr=>?_) fun ch bs hr=>?_
  · obtain ⟨h3,r',h4,h5⟩:=hK r bs hr
    exact ⟨r',_,h4,repK_spec _ _ _ h5,h2 bs h3⟩
  · obtain ⟨h3,h5⟩:=hP ch bs hr
    exact ⟨_,repK_spec _ _ _ h5,h2 bs h3⟩
theorem NCallX.fits {f:FuncId} {args:List AV} {m:List Blk} {K K':AV→List Blk→Prop} {Kp Kp':List PanicEntry→List Blk→Prop} (h:NCallX P f args m K Kp)
    (hk:∀ r m',K r m'→∃ r' m'',r'.den=r.den∧MemFits m' m''∧K' r' m'') (hp:∀ ch m',Kp ch m'→∃ m'',MemFits m' m''∧Kp' ch m''):NCallX P f args m K' Kp':=by
  rw [NCallX_iff] at h ⊢
  refine ⟨h.1,fun w hm=>(h.2 w hm).mono fun e w' hq=>?_⟩
  rcases hq with ⟨r,m',h1,rfl,h3,h4,h5⟩ | ⟨r,m',h1,rfl,h3,h4,h5⟩
  · obtain ⟨r',m'',h6,h7,h8⟩:=hk r m' h1
    exact .inl ⟨r',m'',h8,by rw [h6],(h7 w' h3).1,h4,fun b hb=>h5.1 b ((h7 w' h3).2.1 b hb),fun b hb=>h5.2 b ((h7 w' h3).2.2 b hb)⟩
  · obtain ⟨m'',h7,h8⟩:=hp r m' h1
    exact .inr ⟨r,m'',h8,rfl,(h7 w' h3).1,h4,fun b hb=>h5.1 b ((h7 w' h3).2.1 b hb),fun b hb=>h5.2 b ((h7 w' h3).2.2 b hb)⟩
theorem gCX {f:FuncId} {args:List AV} {m:List Blk} {K:AV→List Blk→Prop} {Kp:List PanicEntry→List Blk→Prop} (h:NCallX P f args m K Kp):NCallX P f args m K Kp:=h
theorem gOX {ops:Array Oper} {l:List Oper} {sl:List AV} {m:List Blk} {Q:Post} (h:opsX P ops l sl m Q):opsX P ops l sl m Q:=h
theorem gXX {c:Code} {sl:List AV} {m:List Blk} {Q:Post} (h:codeX P c sl m Q):codeX P c sl m Q:=h
def thenX (P:Program) (b:Code) (Q:Post):Post:=fun e sl m=>match e with
  | .normal=>codeX P b sl m Q
  | e=>Q e sl m
def retX (P:Program) (fn:Func) (R:AV→List Blk→Prop) (Rp:List PanicEntry→List Blk→Prop):Post:=fun e sl m=>match e with
  | .normal=>resK P m sl fn.results.toList fun xs=>retK xs fun r=>R r m
  | .ret=>resK P m sl fn.results.toList fun xs=>retK xs fun r=>R r m
  | .panic ch=>Rp ch m
  | _=>False
end
section
variable {P:Program} {Q:Post} {sl:List AV} {m:List Blk} {a b c:Code} {id j:Nat} {ch:List PanicEntry}
theorem gRX {fn:Func} {R:AV→List Blk→Prop} {Rp:List PanicEntry→List Blk→Prop} {e:Exit} (h:retX P fn R Rp e sl m):retX P fn R Rp e sl m:=h
theorem gFX {fn:Func} {args:List AV} {R:AV→List Blk→Prop} {Rp:List PanicEntry→List Blk→Prop} (h:funcX P fn args m R Rp):funcX P fn args m R Rp:=h
theorem st_funcX {fn:Func} {c:Code} {args:List AV} {R:AV→List Blk→Prop} {Rp:List PanicEntry→List Blk→Prop} (hb:fn.body=some c) (h:∀ K:List AV→Prop,(∀ sl,codeX P c sl m (retX P fn R Rp)→K sl)→argK args fn.ntmps K):funcX P fn args m R Rp:=by
  unfold funcX
  rw [hb]
  exact h _ fun _ h=>h
theorem st_seqX (h:codeX P a sl m (thenX P b Q)):codeX P (.seq a b) sl m Q:=h
theorem st_blockX (h:codeX P a sl m (blockS id Q)):codeX P (.block id a) sl m Q:=h
theorem st_regionX {l:List Oper} (h:opsX P l.toArray l sl m Q):codeX P (.region id l.toArray false) sl m Q:=by
  simp only [codeX]
  exact h
theorem st_skipX (h:Q .normal sl m):codeX P .skip sl m Q:=h
theorem st_exitX (h:Q (.exit id) sl m):codeX P (.exit id) sl m Q:=h
theorem st_retX (h:Q .ret sl m):codeX P .ret sl m Q:=h
theorem st_condX {o:Operand} (h:∀ A B:Prop,(codeX P a sl m Q→A)→(codeX P b sl m Q→B)→evK sl o fun v=>match v with
    | .bool x=>NIf x A B
    | _=>False):codeX P (.cond o a b) sl m Q:=h _ _ (fun h=>h) (fun h=>h)
theorem st_thenX (h:codeX P b sl m Q):thenX P b Q .normal sl m:=h
theorem st_thenX_exit (h:Q (.exit j) sl m):thenX P b Q (.exit j) sl m:=h
theorem st_thenX_ret (h:Q .ret sl m):thenX P b Q .ret sl m:=h
theorem st_thenX_panic (h:Q (.panic ch) sl m):thenX P b Q (.panic ch) sl m:=h
theorem st_block_panic (h:Q (.panic ch) sl m):blockS id Q (.panic ch) sl m:=h
theorem st_round_panic {α:Type} {ok:α→Prop} {s:α→List AV} {mm:α→List Blk} {μ:α→Nat} {x:α} (h:Q (.panic ch) sl m):roundS ok s mm μ x Q (.panic ch) sl m:=h
theorem st_retX_ret {fn:Func} {R:AV→List Blk→Prop} {Rp:List PanicEntry→List Blk→Prop} {rs:List ResultVar} (hr:fn.results.toList=rs) (h:∀ K:AV→Prop,(∀ r,R r m→K r)→resK P m sl rs fun xs=>retK xs K):retX P fn R Rp .ret sl m:=by
  show resK P m sl fn.results.toList _
  rw [hr]
  exact h _ fun _ h=>h
theorem st_retX_normal {fn:Func} {R:AV→List Blk→Prop} {Rp:List PanicEntry→List Blk→Prop} {rs:List ResultVar} (hr:fn.results.toList=rs) (h:∀ K:AV→Prop,(∀ r,R r m→K r)→resK P m sl rs fun xs=>retK xs K):retX P fn R Rp .normal sl m:=by
  show resK P m sl fn.results.toList _
  rw [hr]
  exact h _ fun _ h=>h
theorem st_retX_panic {fn:Func} {R:AV→List Blk→Prop} {Rp:List PanicEntry→List Blk→Prop} (h:Rp ch m):retX P fn R Rp (.panic ch) sl m:=h
theorem st_loopX {α:Type} (ok:α→Prop) (s:α→List AV) (mm:α→List Blk) (μ:α→Nat) (x:α) (hx:ok x) (hs:FitsSl sl (s x)) (hm:MemFits m (mm x))
    (hround:∀ x,ok x→codeX P a (s x) (mm x) (roundS ok s mm μ x Q)):codeX P (.loop a) sl m Q:=NLoop.by ok s mm μ (fun _=>⟨x,hx,hs,hm⟩) hround
theorem st_autoX {α:Type} (ok:α→Prop) (us:α→List Up) (ms:α→List UpB) (μ:α→Nat) (x:α) (hx:ok x) (hs:FitsSl sl (autoL sl (us x))) (hm:MemFits m (autoM m (ms x)))
    (hround:∀ x,ok x→∀ K:List AV→List Blk→Prop,(∀ sl' m',codeX P a sl' m' (roundS ok (fun x=>autoL sl (us x)) (fun x=>autoM m (ms x)) μ x Q)→K sl' m')→autoK sl (us x) fun sl'=>autoMK m (ms x) fun m'=>K sl' m'):codeX P (.loop a) sl m Q :=
  st_loopX ok (fun x=>autoL sl (us x)) (fun x=>autoM m (ms x)) μ x hx hs hm fun y hy=>by
    have h:=hround y hy (fun sl' m'=>codeX P a sl' m' (roundS ok (fun x=>autoL sl (us x)) (fun x=>autoM m (ms x)) μ y Q)) fun _ _ h=>h
    exact autoMK_spec _ _ (autoK_spec _ _ h)
section
variable {ops:Array Oper} {rest:List Oper}
theorem st_nilX (h:Q .normal sl m):opsX P ops [] sl m Q:=h
theorem st_opX {d:Option Tmp} {op:Op} {t:TypeId} {p:String} {e:Array Edge} (h:∀ (K:List AV→List Blk→Prop) (Kp:List PanicEntry→List Blk→Prop),(∀ sl m,opsX P ops rest sl m Q→K sl m)→(∀ ch m,Q (.panic ch) sl m→Kp ch m)→opX P sl m op (fun v m'=>dstK sl d v fun sl'=>K sl' m') Kp) :
    opsX P ops (⟨d,op,t,p,e,none⟩::rest) sl m Q:=h _ _ (fun _ _ h=>h) fun _ _ h=>h
end
end
section
variable {P:Program} {l:List Oper} {n i:Nat} {done:List Nat} {sl:List AV} {m:List Blk} {Q:Post} {id:Nat}
def OrdX (w0:World) (S:Own) (Q:Post):Exit→Act→World→Prop:=fun e a w=>∃ sl m,Q e sl m∧Sim w0 S sl m a w
@[irreducible] def NOrdX (P:Program) (l:List Oper) (n:Nat) (done:List Nat) (sl:List AV) (m:List Blk) (Q:Post):Prop :=
  ∀ (w0:World) (S:Own) (a:Act) (w:World),Sim w0 S sl m a w→wpAny P .any l.toArray (OrdX w0 S Q) n (listedOf l.length done) a w
@[irreducible] def NEachX (P:Program) (l:List Oper) (n:Nat) (done:List Nat) (sl:List AV) (m:List Blk) (Q:Post) (rs:List (Nat × Oper)):Prop :=
  ∀ x∈rs,∀ (w0:World) (S:Own) (a:Act) (w:World),Sim w0 S sl m a w→l.toArray[x.1]?=some x.2→wpOp P l.toArray (OrdX w0 S Q) x.1 (wpAny P .any l.toArray (OrdX w0 S Q) n (listedOf l.length (x.1::done))) a w
theorem gNOX (h:NOrdX P l n done sl m Q):NOrdX P l n done sl m Q:=h
theorem gNEX {rs:List (Nat × Oper)} (h:NEachX P l n done sl m Q rs):NEachX P l n done sl m Q rs:=h
theorem st_orderX (h1:P.follows .mixedOrders=true) (n:Nat) (hn:l.length=n) (h:NOrdX P l n [] sl m Q):codeX P (.region id l.toArray true) sl m Q:=by
  subst hn
  simp only [codeX]
  unfold NDrawX
  intro id w0 S a w hs
  unfold NOrdX at h
  refine wp_region_any h1 ?_
  have:=h w0 S a { w with drawn:=w.drawn+1 } ⟨hs.slots,hs.defers,hs.mem.keep (Nat.le_refl _) (fun _ _ _ _=>rfl),⟨hs.fr.os,hs.fr.tape,hs.fr.output,hs.fr.size,hs.fr.block⟩,hs.fresh⟩
  show wpAny P .any l.toArray (OrdX w0 S Q) _ _ a _
  simpa [listedOf] using this
theorem st_ordAX {rs:List (Nat × Oper)} (hr:readys done 0 l=rs) (hc:chkR l done rs=true) (hne:rs≠[]) (h:NEachX P l n done sl m Q rs):NOrdX P l (n+1) done sl m Q:=by
  unfold NOrdX
  intro w0 S a w hs
  have hc:Region.ready .any l.toArray (listedOf l.length done)=rs.map (·.1):=by simpa [chkR] using hc
  unfold wpAny
  rw [hc]
  refine ⟨fun e=>(hne (by simpa using e)).elim,fun i hi=>?_⟩
  obtain ⟨x,hx,rfl⟩:=List.mem_map.1 hi
  obtain ⟨t,h1,h2⟩:=readys_at l 0 x (hr ▸ hx)
  unfold NEachX at h
  exact h x hx w0 S a w hs (by rw [h1];simpa using h2)
theorem st_ord0X (_hr:readys done 0 l=[]) (hc:chkR l done []=true) (h:Q .normal sl m):NOrdX P l n done sl m Q:=by
  unfold NOrdX
  intro w0 S a w hs
  have hc:Region.ready .any l.toArray (listedOf l.length done)=[]:=by simpa [chkR] using hc
  cases n with
  | zero=>exact ⟨hc,sl,m,h,hs⟩
  | succ n=>exact ⟨fun _=>⟨sl,m,h,hs⟩,by rw [hc];simp⟩
theorem st_eachX0:NEachX P l n done sl m Q []:=by unfold NEachX;intro x hx;cases hx
theorem st_eachX {rs:List (Nat × Oper)} {d:Option Tmp} {op:Op} {t:TypeId} {p:String} {e:Array Edge}
    (h:∀ (K:List AV→List Blk→Prop) (Kp:List PanicEntry→List Blk→Prop),(∀ sl m,NOrdX P l n (i::done) sl m Q→K sl m)→(∀ ch m,Q (.panic ch) sl m→Kp ch m)→opX P sl m op (fun v m'=>dstK sl d v fun sl'=>K sl' m') Kp) (hr:NEachX P l n done sl m Q rs):NEachX P l n done sl m Q ((i,⟨d,op,t,p,e,none⟩)::rs):=by
  unfold NEachX at *
  intro x hx
  rcases List.mem_cons.1 hx with rfl | hx
  · intro w0 S a w hs ho
    unfold wpOp
    simp only [ho]
    rw [if_pos (show Region.wanted ⟨d,op,t,p,e,none⟩ (yielded l.toArray a.tmps)=true from rfl)]
    refine .inl (opX_spec hs.slots hs.mem hs.fr hs.fresh (o:=⟨d,op,t,p,e,none⟩) (h _ _ (fun _ _ h=>h) fun _ _ h=>h) (fun v m' w' hl=>?_) fun ch m' w' hl=>⟨sl,m',hl.k,hs.slots,hs.defers,hl.mem,hl.fr,hl.fresh⟩)
    obtain ⟨sl',h1,h2⟩:=dstK_spec hl.k hs.slots
    unfold NOrdX at h1
    exact h1 w0 S _ _ (hs.step h2 hl.mem hl.fr hl.fresh)
  · exact hr x hx
end
theorem sxEX {G G':Prop} (r:G') (h:SxRes G'→G:=by
  intro r
  (first|((first|((with_reducible refine gV ?_);(first|((with_reducible first|refine NV.quo ?s ?_|refine NV.rem ?s ?_|refine NV.i64 ?s ?_|refine NV.u32 ?s ?_|refine NV.u8 ?s ?_|refine NV.u64 ?s ?_);case s=>omega)|(with_reducible first|refine NV.divk ?_|refine NV.modk ?_|refine NV.keep ?_)))|((with_reducible refine gI ?_);(first|with_reducible refine NIf.not_ ?_|((with_reducible refine NIf.decY ?s ?_);case s=>first|with_reducible rfl|assumption|omega)|((with_reducible refine NIf.decN ?s ?_);case s=>first|with_reducible rfl|assumption|omega)|((with_reducible refine NIf.yes ?s ?_);case s=>first|rfl|assumption)|((with_reducible refine NIf.no ?s ?_);case s=>first|rfl|assumption)))|((with_reducible refine gN ?_);(with_reducible first|refine NN.lit ?_|refine NN.cast ?_|refine NN.a1 ?_|refine NN.a2 ?_|refine NN.a3 ?_|refine NN.a4 ?_|refine NN.a5 ?_|refine NN.a6 ?_|refine NN.keep ?_))|((with_reducible refine gH ?_);((with_reducible refine NH.mk ?s ?_);case s=>(and_intros<;>first|with_reducible rfl|((with_reducible refine gOnes ?_);rfl)|((with_reducible refine gLen ?_);rfl)|omega|assumption|exact Nat.le_of_ble_eq_true rfl|(simp only [List.length_append,List.length_cons,List.length_nil];omega)|rfl)))|(with_reducible refine NS.keep ?_)|(with_reducible refine NLd.of (by with_reducible assumption) ?_))<;>(conv=>whnf))|((refine NFlat_iff.2 ⟨⟨?s1,?s2⟩,?_⟩;(case s1=>decide +kernel);(case s2=>decide +kernel))<;>(conv=>whnf)))
  exact r.go):G:=h ⟨r⟩
theorem sxPX {G G':Prop} (r:G') (h:SxRes G'→G:=by
  intro r
  (first|((with_reducible refine gOX ?_);(with_reducible first|refine st_opX ?_|refine st_opXg ?_)))
  exact r.go):G:=h ⟨r⟩
theorem sxX {G G':Prop} (r:G') (h:SxRes G'→G:=by
  intro r
  (repeat1' (first|(with_reducible first|refine hK _ _ ?_|refine hA ?_|refine hB ?_|refine hK _ ?_|refine hP _ _ ?_)|((first|((with_reducible refine gO ?_);(with_reducible first|refine z25 ?_|refine z26 ?_))|((with_reducible refine gP ?_);(with_reducible first|refine z27 ?_|refine z28 ?_))|((with_reducible refine gR ?_);(first|refine z31 rfl ?_|refine z32 rfl ?_))|((with_reducible refine gF ?_);(refine z33 rfl ?_))|((with_reducible refine gRX ?_);(first|refine st_retX_ret rfl ?_|refine st_retX_normal rfl ?_))|((with_reducible refine gFX ?_);(refine st_funcX rfl ?_)));intro K hK;(conv=>whnf);(repeat (first|((first|((with_reducible refine gV ?_);(first|((with_reducible first|refine NV.quo ?s ?_|refine NV.rem ?s ?_|refine NV.i64 ?s ?_|refine NV.u32 ?s ?_|refine NV.u8 ?s ?_|refine NV.u64 ?s ?_);case s=>omega)|(with_reducible first|refine NV.divk ?_|refine NV.modk ?_|refine NV.keep ?_)))|((with_reducible refine gI ?_);(first|with_reducible refine NIf.not_ ?_|((with_reducible refine NIf.decY ?s ?_);case s=>first|with_reducible rfl|assumption|omega)|((with_reducible refine NIf.decN ?s ?_);case s=>first|with_reducible rfl|assumption|omega)|((with_reducible refine NIf.yes ?s ?_);case s=>first|rfl|assumption)|((with_reducible refine NIf.no ?s ?_);case s=>first|rfl|assumption)))|((with_reducible refine gN ?_);(with_reducible first|refine NN.lit ?_|refine NN.cast ?_|refine NN.a1 ?_|refine NN.a2 ?_|refine NN.a3 ?_|refine NN.a4 ?_|refine NN.a5 ?_|refine NN.a6 ?_|refine NN.keep ?_))|((with_reducible refine gH ?_);((with_reducible refine NH.mk ?s ?_);case s=>(and_intros<;>first|with_reducible rfl|((with_reducible refine gOnes ?_);rfl)|((with_reducible refine gLen ?_);rfl)|omega|assumption|exact Nat.le_of_ble_eq_true rfl|(simp only [List.length_append,List.length_cons,List.length_nil];omega)|rfl)))|(with_reducible refine NS.keep ?_)|(with_reducible refine NLd.of (by with_reducible assumption) ?_))<;>(conv=>whnf))|((refine NFlat_iff.2 ⟨⟨?s1,?s2⟩,?_⟩;(case s1=>decide +kernel);(case s2=>decide +kernel))<;>(conv=>whnf))));(with_reducible first|(refine hK _ _ ?_;clear hK K)|(refine hA ?_;clear hA hB A B)|(refine hB ?_;clear hA hB A B)|(refine hK _ ?_;clear hK K)))|((first|((with_reducible refine gOX ?_);(with_reducible first|refine st_opX ?_|refine st_opXg ?_)));intro K Kp hK hP;(conv=>whnf);(repeat (first|((first|((with_reducible refine gV ?_);(first|((with_reducible first|refine NV.quo ?s ?_|refine NV.rem ?s ?_|refine NV.i64 ?s ?_|refine NV.u32 ?s ?_|refine NV.u8 ?s ?_|refine NV.u64 ?s ?_);case s=>omega)|(with_reducible first|refine NV.divk ?_|refine NV.modk ?_|refine NV.keep ?_)))|((with_reducible refine gI ?_);(first|with_reducible refine NIf.not_ ?_|((with_reducible refine NIf.decY ?s ?_);case s=>first|with_reducible rfl|assumption|omega)|((with_reducible refine NIf.decN ?s ?_);case s=>first|with_reducible rfl|assumption|omega)|((with_reducible refine NIf.yes ?s ?_);case s=>first|rfl|assumption)|((with_reducible refine NIf.no ?s ?_);case s=>first|rfl|assumption)))|((with_reducible refine gN ?_);(with_reducible first|refine NN.lit ?_|refine NN.cast ?_|refine NN.a1 ?_|refine NN.a2 ?_|refine NN.a3 ?_|refine NN.a4 ?_|refine NN.a5 ?_|refine NN.a6 ?_|refine NN.keep ?_))|((with_reducible refine gH ?_);((with_reducible refine NH.mk ?s ?_);case s=>(and_intros<;>first|with_reducible rfl|((with_reducible refine gOnes ?_);rfl)|((with_reducible refine gLen ?_);rfl)|omega|assumption|exact Nat.le_of_ble_eq_true rfl|(simp only [List.length_append,List.length_cons,List.length_nil];omega)|rfl)))|(with_reducible refine NS.keep ?_)|(with_reducible refine NLd.of (by with_reducible assumption) ?_))<;>(conv=>whnf))|((refine NFlat_iff.2 ⟨⟨?s1,?s2⟩,?_⟩;(case s1=>decide +kernel);(case s2=>decide +kernel))<;>(conv=>whnf))));(with_reducible first|(refine hK _ _ ?_;clear hP hK Kp K)|(refine hP _ _ ?_;clear hP hK Kp K)))|((with_reducible refine gO ?_);(with_reducible first|refine z0 ?_))|((with_reducible refine gP ?_);(with_reducible first|refine z24 ?_))|((with_reducible refine gX ?_);(with_reducible first|refine z3 ?_|refine z4 ?_|refine z5 ?_|refine z6 ?_|refine z7 ?_|refine z8 ?_|refine z14 ?_|refine z15 ?_))|(with_reducible first|refine z1 ?_|refine z2 ?_|refine z9 ?_|refine z10 ?_|refine z11 ?_|refine z12 ?_|refine z13 ?_|refine z16 ?_|refine z17 ?_|refine z18 ?_|refine z19 ?_|refine z20 ?_|refine z21 ?_|refine z22 ?_|refine z23 ?_|refine st_thenX ?_|refine st_thenX_exit ?_|refine st_thenX_ret ?_|refine st_thenX_panic ?_|refine st_block_panic ?_|refine st_scope_panic ?_|refine st_round_panic ?_)|((with_reducible refine gB ?_);(refine z30 (by decide) ?_))|((with_reducible refine gOX ?_);(with_reducible first|refine st_nilX ?_))|((with_reducible refine gXX ?_);(with_reducible first|refine st_seqX ?_|refine st_regionX ?_|refine st_blockX ?_|refine st_skipX ?_|refine st_exitX ?_|refine st_retX ?_|refine st_scopeX ?_|refine st_labelX ?_))|((with_reducible refine gRX ?_);(with_reducible refine st_retX_panic ?_))|((first|((with_reducible refine gV ?_);(first|((with_reducible first|refine NV.quo ?s ?_|refine NV.rem ?s ?_|refine NV.i64 ?s ?_|refine NV.u32 ?s ?_|refine NV.u8 ?s ?_|refine NV.u64 ?s ?_);case s=>omega)|(with_reducible first|refine NV.divk ?_|refine NV.modk ?_|refine NV.keep ?_)))|((with_reducible refine gI ?_);(first|with_reducible refine NIf.not_ ?_|((with_reducible refine NIf.decY ?s ?_);case s=>first|with_reducible rfl|assumption|omega)|((with_reducible refine NIf.decN ?s ?_);case s=>first|with_reducible rfl|assumption|omega)|((with_reducible refine NIf.yes ?s ?_);case s=>first|rfl|assumption)|((with_reducible refine NIf.no ?s ?_);case s=>first|rfl|assumption)))|((with_reducible refine gN ?_);(with_reducible first|refine NN.lit ?_|refine NN.cast ?_|refine NN.a1 ?_|refine NN.a2 ?_|refine NN.a3 ?_|refine NN.a4 ?_|refine NN.a5 ?_|refine NN.a6 ?_|refine NN.keep ?_))|((with_reducible refine gH ?_);((with_reducible refine NH.mk ?s ?_);case s=>(and_intros<;>first|with_reducible rfl|((with_reducible refine gOnes ?_);rfl)|((with_reducible refine gLen ?_);rfl)|omega|assumption|exact Nat.le_of_ble_eq_true rfl|(simp only [List.length_append,List.length_cons,List.length_nil];omega)|rfl)))|(with_reducible refine NS.keep ?_)|(with_reducible refine NLd.of (by with_reducible assumption) ?_))<;>(conv=>whnf))|((first|((with_reducible refine gX ?_);(with_reducible refine z29 ?_))|((with_reducible refine gXX ?_);(with_reducible refine st_condX ?_)));intro A B hA hB;(conv=>whnf);(repeat (first|((first|((with_reducible refine gV ?_);(first|((with_reducible first|refine NV.quo ?s ?_|refine NV.rem ?s ?_|refine NV.i64 ?s ?_|refine NV.u32 ?s ?_|refine NV.u8 ?s ?_|refine NV.u64 ?s ?_);case s=>omega)|(with_reducible first|refine NV.divk ?_|refine NV.modk ?_|refine NV.keep ?_)))|((with_reducible refine gI ?_);(first|with_reducible refine NIf.not_ ?_|((with_reducible refine NIf.decY ?s ?_);case s=>first|with_reducible rfl|assumption|omega)|((with_reducible refine NIf.decN ?s ?_);case s=>first|with_reducible rfl|assumption|omega)|((with_reducible refine NIf.yes ?s ?_);case s=>first|rfl|assumption)|((with_reducible refine NIf.no ?s ?_);case s=>first|rfl|assumption)))|((with_reducible refine gN ?_);(with_reducible first|refine NN.lit ?_|refine NN.cast ?_|refine NN.a1 ?_|refine NN.a2 ?_|refine NN.a3 ?_|refine NN.a4 ?_|refine NN.a5 ?_|refine NN.a6 ?_|refine NN.keep ?_))|((with_reducible refine gH ?_);((with_reducible refine NH.mk ?s ?_);case s=>(and_intros<;>first|with_reducible rfl|((with_reducible refine gOnes ?_);rfl)|((with_reducible refine gLen ?_);rfl)|omega|assumption|exact Nat.le_of_ble_eq_true rfl|(simp only [List.length_append,List.length_cons,List.length_nil];omega)|rfl)))|(with_reducible refine NS.keep ?_)|(with_reducible refine NLd.of (by with_reducible assumption) ?_))<;>(conv=>whnf))|((refine NFlat_iff.2 ⟨⟨?s1,?s2⟩,?_⟩;(case s1=>decide +kernel);(case s2=>decide +kernel))<;>(conv=>whnf))));(with_reducible first|(refine hK _ _ ?_;clear hK K)|(refine hA ?_;clear hA hB A B)|(refine hB ?_;clear hA hB A B)|(refine hK _ ?_;clear hK K)))|((refine NFlat_iff.2 ⟨⟨?s1,?s2⟩,?_⟩;(case s1=>decide +kernel);(case s2=>decide +kernel))<;>(conv=>whnf))))
  exact r.go):G:=h ⟨r⟩
theorem cX {P:Program} {f:FuncId} {args:List AV} {m:List Blk} {K KL:AV→List Blk→Prop} {Kp KpL:List PanicEntry→List Blk→Prop} (idx:List Nat) {args':List AV} {mL:List Blk} (h:NCallX P f args' mL KL KpL) (hargs:denL args'=denL args)
    (hmL:idx.map (fun i=>m[i]?)=mL.map some) (hK:∀ r bs,KL r bs→Nat.ble idx.length bs.length=true∧∃ r',r'.den=r.den∧repK m idx bs (K r')) (hP:∀ ch bs,KpL ch bs→Nat.ble idx.length bs.length=true∧repK m idx bs (Kp ch)) (hn:idx.Nodup:=by decide):NCallX P f args m K Kp :=
  NCallX.subw idx args' mL h hargs hn hmL (fun r bs hr=>⟨Nat.le_of_ble_eq_true (hK r bs hr).1,(hK r bs hr).2⟩) fun ch bs hr=>⟨Nat.le_of_ble_eq_true (hP ch bs hr).1,(hP ch bs hr).2⟩
theorem sxZX {G G':Prop} (r:G') (h:SxRes G'→G:=by
  intro r
  repeat1' (first|(with_reducible first|(refine hK _ _ ?_;try clear hP hK Kp K)|(refine hA ?_;try clear hA hB A B)|(refine hB ?_;try clear hA hB A B)|(refine hK _ ?_;try clear hK K)|(refine hP _ _ ?_;try clear hP hK Kp K))|(intro K hK;first|(with_reducible first|refine hK _ _ ?_|refine hK _ ?_)|refine sxEX ?_)|(intro K Kp hK hP;first|(with_reducible refine hK _ _ ?_)|refine sxEX ?_)|((first|((with_reducible refine gV ?_);(first|((with_reducible first|refine NV.quo ?s ?_|refine NV.rem ?s ?_|refine NV.i64 ?s ?_|refine NV.u32 ?s ?_|refine NV.u8 ?s ?_|refine NV.u64 ?s ?_);case s=>omega)|(with_reducible first|refine NV.divk ?_|refine NV.modk ?_|refine NV.keep ?_)))|((with_reducible refine gI ?_);(first|with_reducible refine NIf.not_ ?_|((with_reducible refine NIf.decY ?s ?_);case s=>first|with_reducible rfl|assumption|omega)|((with_reducible refine NIf.decN ?s ?_);case s=>first|with_reducible rfl|assumption|omega)|((with_reducible refine NIf.yes ?s ?_);case s=>first|rfl|assumption)|((with_reducible refine NIf.no ?s ?_);case s=>first|rfl|assumption)))|((with_reducible refine gN ?_);(with_reducible first|refine NN.lit ?_|refine NN.cast ?_|refine NN.a1 ?_|refine NN.a2 ?_|refine NN.a3 ?_|refine NN.a4 ?_|refine NN.a5 ?_|refine NN.a6 ?_|refine NN.keep ?_))|((with_reducible refine gH ?_);((with_reducible refine NH.mk ?s ?_);case s=>(and_intros<;>first|with_reducible rfl|((with_reducible refine gOnes ?_);rfl)|((with_reducible refine gLen ?_);rfl)|omega|assumption|exact Nat.le_of_ble_eq_true rfl|(simp only [List.length_append,List.length_cons,List.length_nil];omega)|rfl)))|(with_reducible refine NS.keep ?_)|(with_reducible refine NLd.of (by with_reducible assumption) ?_))<;>(conv=>whnf))|((first|((with_reducible refine gO ?_);(with_reducible first|refine z25 ?_|refine z26 ?_))|((with_reducible refine gP ?_);(with_reducible first|refine z27 ?_|refine z28 ?_))|((with_reducible refine gR ?_);(first|refine z31 rfl ?_|refine z32 rfl ?_))|((with_reducible refine gF ?_);(refine z33 rfl ?_))|((with_reducible refine gRX ?_);(first|refine st_retX_ret rfl ?_|refine st_retX_normal rfl ?_))|((with_reducible refine gFX ?_);(refine st_funcX rfl ?_)));intro K hK;(conv=>whnf))|((first|((with_reducible refine gOX ?_);(with_reducible first|refine st_opX ?_|refine st_opXg ?_)));intro K Kp hK hP;(conv=>whnf))|((with_reducible refine gO ?_);(with_reducible first|refine z0 ?_))|((with_reducible refine gP ?_);(with_reducible first|refine z24 ?_))|((with_reducible refine gX ?_);(with_reducible first|refine z3 ?_|refine z4 ?_|refine z5 ?_|refine z6 ?_|refine z7 ?_|refine z8 ?_|refine z14 ?_|refine z15 ?_))|(with_reducible first|refine z1 ?_|refine z2 ?_|refine z9 ?_|refine z10 ?_|refine z11 ?_|refine z12 ?_|refine z13 ?_|refine z16 ?_|refine z17 ?_|refine z18 ?_|refine z19 ?_|refine z20 ?_|refine z21 ?_|refine z22 ?_|refine z23 ?_|refine st_thenX ?_|refine st_thenX_exit ?_|refine st_thenX_ret ?_|refine st_thenX_panic ?_|refine st_block_panic ?_|refine st_scope_panic ?_|refine st_round_panic ?_)|((with_reducible refine gB ?_);(refine z30 (by decide) ?_))|((with_reducible refine gOX ?_);(with_reducible first|refine st_nilX ?_))|((with_reducible refine gXX ?_);(with_reducible first|refine st_seqX ?_|refine st_regionX ?_|refine st_blockX ?_|refine st_skipX ?_|refine st_exitX ?_|refine st_retX ?_|refine st_scopeX ?_|refine st_labelX ?_))|((with_reducible refine gRX ?_);(with_reducible refine st_retX_panic ?_))|((with_reducible refine gXX ?_);(refine st_drawX ?_))|((with_reducible refine gX ?_);(refine z34 (by kernel_rfl) (by kernel_rfl) ?_))|((first|((with_reducible refine gX ?_);(with_reducible refine z29 ?_))|((with_reducible refine gXX ?_);(with_reducible refine st_condX ?_)));intro A B hA hB;(conv=>whnf))|((refine NFlat_iff.2 ⟨⟨?s1,?s2⟩,?_⟩;(case s1=>decide +kernel);(case s2=>decide +kernel))<;>(conv=>whnf)))
  (first|exact r.go|(revert K hK;exact r.go)|(revert A B hA hB;exact r.go)|(revert K Kp hK hP;exact r.go))):G:=h ⟨r⟩
theorem sxOX {G G':Prop} (r:G') (h:SxRes G'→G:=by
  intro r
  repeat1' (first|(with_reducible first|(refine hK _ _ ?_;try clear hP hK Kp K)|(refine hA ?_;try clear hA hB A B)|(refine hB ?_;try clear hA hB A B)|(refine hK _ ?_;try clear hK K)|(refine hP _ _ ?_;try clear hP hK Kp K))|(intro K hK;first|(with_reducible first|refine hK _ _ ?_|refine hK _ ?_)|refine sxEX ?_)|(intro K Kp hK hP;first|(with_reducible refine hK _ _ ?_)|refine sxEX ?_)|((first|((with_reducible refine gV ?_);(first|((with_reducible first|refine NV.quo ?s ?_|refine NV.rem ?s ?_|refine NV.i64 ?s ?_|refine NV.u32 ?s ?_|refine NV.u8 ?s ?_|refine NV.u64 ?s ?_);case s=>omega)|(with_reducible first|refine NV.divk ?_|refine NV.modk ?_|refine NV.keep ?_)))|((with_reducible refine gI ?_);(first|with_reducible refine NIf.not_ ?_|((with_reducible refine NIf.decY ?s ?_);case s=>first|with_reducible rfl|assumption|omega)|((with_reducible refine NIf.decN ?s ?_);case s=>first|with_reducible rfl|assumption|omega)|((with_reducible refine NIf.yes ?s ?_);case s=>first|rfl|assumption)|((with_reducible refine NIf.no ?s ?_);case s=>first|rfl|assumption)))|((with_reducible refine gN ?_);(with_reducible first|refine NN.lit ?_|refine NN.cast ?_|refine NN.a1 ?_|refine NN.a2 ?_|refine NN.a3 ?_|refine NN.a4 ?_|refine NN.a5 ?_|refine NN.a6 ?_|refine NN.keep ?_))|((with_reducible refine gH ?_);((with_reducible refine NH.mk ?s ?_);case s=>(and_intros<;>first|with_reducible rfl|((with_reducible refine gOnes ?_);rfl)|((with_reducible refine gLen ?_);rfl)|omega|assumption|exact Nat.le_of_ble_eq_true rfl|(simp only [List.length_append,List.length_cons,List.length_nil];omega)|rfl)))|(with_reducible refine NS.keep ?_)|(with_reducible refine NLd.of (by with_reducible assumption) ?_))<;>(conv=>whnf))|((first|((with_reducible refine gO ?_);(with_reducible first|refine z25 ?_|refine z26 ?_))|((with_reducible refine gP ?_);(with_reducible first|refine z27 ?_|refine z28 ?_))|((with_reducible refine gR ?_);(first|refine z31 rfl ?_|refine z32 rfl ?_))|((with_reducible refine gF ?_);(refine z33 rfl ?_))|((with_reducible refine gRX ?_);(first|refine st_retX_ret rfl ?_|refine st_retX_normal rfl ?_))|((with_reducible refine gFX ?_);(refine st_funcX rfl ?_)));intro K hK;(conv=>whnf))|((first|((with_reducible refine gOX ?_);(with_reducible first|refine st_opX ?_|refine st_opXg ?_)));intro K Kp hK hP;(conv=>whnf))|((with_reducible refine gO ?_);(with_reducible first|refine z0 ?_))|((with_reducible refine gP ?_);(with_reducible first|refine z24 ?_))|((with_reducible refine gX ?_);(with_reducible first|refine z3 ?_|refine z4 ?_|refine z5 ?_|refine z6 ?_|refine z7 ?_|refine z8 ?_|refine z14 ?_|refine z15 ?_))|(with_reducible first|refine z1 ?_|refine z2 ?_|refine z9 ?_|refine z10 ?_|refine z11 ?_|refine z12 ?_|refine z13 ?_|refine z16 ?_|refine z17 ?_|refine z18 ?_|refine z19 ?_|refine z20 ?_|refine z21 ?_|refine z22 ?_|refine z23 ?_|refine st_thenX ?_|refine st_thenX_exit ?_|refine st_thenX_ret ?_|refine st_thenX_panic ?_|refine st_block_panic ?_|refine st_scope_panic ?_|refine st_round_panic ?_)|((with_reducible refine gB ?_);(refine z30 (by decide) ?_))|((with_reducible refine gOX ?_);(with_reducible first|refine st_nilX ?_))|((with_reducible refine gXX ?_);(with_reducible first|refine st_seqX ?_|refine st_regionX ?_|refine st_blockX ?_|refine st_skipX ?_|refine st_exitX ?_|refine st_retX ?_|refine st_scopeX ?_|refine st_labelX ?_))|((with_reducible refine gRX ?_);(with_reducible refine st_retX_panic ?_))|((with_reducible refine gXX ?_);(refine st_orderX (by kernel_rfl) _ rfl ?_))|((with_reducible refine gX ?_);(refine z34 (by kernel_rfl) (by kernel_rfl) ?_))|((with_reducible refine gNOX ?_);(first|(refine st_ord0X rfl (by kernel_rfl) ?_)|(refine st_ordAX rfl (by kernel_rfl) (by intro h;cases h) ?_)))|((with_reducible refine gNEX ?_);(refine st_eachX ?_ st_eachX0;intro K Kp hK hP;(conv=>whnf)))|((first|((with_reducible refine gX ?_);(with_reducible refine z29 ?_))|((with_reducible refine gXX ?_);(with_reducible refine st_condX ?_)));intro A B hA hB;(conv=>whnf))|((refine NFlat_iff.2 ⟨⟨?s1,?s2⟩,?_⟩;(case s1=>decide +kernel);(case s2=>decide +kernel))<;>(conv=>whnf)))
  (first|exact r.go|(revert K hK;exact r.go)|(revert A B hA hB;exact r.go)|(revert K Kp hK hP;exact r.go))):G:=h ⟨r⟩
theorem sxVX {G A' B':Prop} (ra:A') (rb:B') (h:SxRes A'→SxRes B'→G:=by
  intro ra rb
  (with_reducible refine gNEX ?_);refine st_eachX ?_ ?_;(intro K Kp hK hP;(conv=>whnf);revert K Kp hK hP;exact ra.go);exact rb.go):G:=h ⟨ra⟩ ⟨rb⟩
end Go.Sx
