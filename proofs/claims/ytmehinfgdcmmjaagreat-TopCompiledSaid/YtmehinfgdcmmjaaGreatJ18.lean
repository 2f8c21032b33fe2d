import Derived.Test.YtmehinfgdcmmjaaGreatJ17
import Derived.Test.YtmehinfgdcmmjaaGreatJ8
import Derived.Test.YtmehinfgdcmmjaaGreatProg
import Derived.Test.YtmehinfgdcmmjaaGreatJ9
namespace Go.Proofs.YtmehinfgdcmmjaaGreat
open Go.Sx
set_option maxRecDepth 20000
set_option linter.unusedSimpArgs false
set_option linter.unusedVariables false
set_option maxHeartbeats 4000000
namespace Tr
theorem alike_iff (f:Int) (a b:List C):alike f a b=true↔a.length=b.length∧∀ (k:Nat) (x y:C),a[k]?=some x→b[k]?=some y→free f x=free f y:=by
 unfold alike
 rw [decide_eq_true_eq]
 constructor
 ·intro h
  refine ⟨by simpa using congrArg List.length h,fun k x y hx hy=>?_⟩
  have:=congrArg (fun l=>l[k]?) h
  simpa [hx,hy] using this
 ·rintro ⟨h1,h2⟩
  apply List.ext_getElem?
  intro k
  rw [List.getElem?_map,List.getElem?_map]
  by_cases hk:k<a.length
  ·rw [List.getElem?_eq_getElem hk,List.getElem?_eq_getElem (by omega)]
   exact congrArg some (h2 k _ _ (List.getElem?_eq_getElem hk) (List.getElem?_eq_getElem (by omega)))
  ·rw [List.getElem?_eq_none (by omega),List.getElem?_eq_none (by omega)]
end Tr
theorem pO (F:Heap) (f:Int) (v w:Value) (a b:List Tr.C) (hv:Tr.Row F v a) (hw:Tr.Row F w b) (ha:a.length≤4611686018427387904) (hb:b.length≤4611686018427387904) (g:FuncId) (captured:List AV)
  (hg:∀ x∈a,∀ y∈b,∀ A B,Po.SRow F A x.out→Po.SRow F B y.out→NCall Tryz.prog g ([.agg (Tr.cs x A),.agg (Tr.cs y B)]++captured) [hpB F] fun r m=>r = .bool (decide (Tr.free f x=Tr.free f y))∧m=[hpB F]) :
  NCall Tryz.prog 154 [.hs v a.length,.hs w b.length,.fn g [] captured] [hpB F] fun r m=>r = .bool (Tr.alike f a b)∧m=[hpB F]:=by
 refine NCall.fits (K:=fun r m=>r = .bool (Tr.alike f a b)∧MemFits m [hpB F]) ?_ fun r m' h=>⟨r,_,rfl,h.2,h.1,rfl⟩
 have hok:=hv.ok
 have hok2:=hw.ok
 have hs:=Tr.alike_iff f a b
 refine aA Tryz.func154 rfl (by decide) ?_
 by_cases hl:a.length=b.length
 ·repeat' first|(refine sxZ ?_;try clear hK K)|refine sxW ?_ ?_<;>intro _|(intro K hK _;conv=>whnf)
  refine aD (α:=Nat) (fun k=>k≤a.length∧∀ (j:Nat) (x y:Tr.C),j<k→a[j]?=some x→b[j]?=some y→Tr.free f x=Tr.free f y) (fun k=>[.k,.k,.k,.k,.k,.k,.d,.d,.d,.d,.k,.k,.k,.k,.k,.k,.k,.set (.int .i64 k),.d,.d,.d,.d,.d,.d,.d,.d,.d,.d,.d,.d,.d,.d]) (fun _=>[]) (fun k=>a.length - k) 0 ⟨Nat.zero_le _,fun j x y hj=>absurd hj (Nat.not_lt_zero _)⟩ ?_ (MemFits.eq rfl) ?_
  ·exact aC
  (intro k ⟨hk,hgone⟩;intro K hK;(conv=>whnf);refine hK _ _ ?_;clear hK K)
  by_cases hlt:k<a.length
  ·have hx:a[k]?=some a[k]:=List.getElem?_eq_getElem hlt
   have hy:b[k]?=some (b[k]'(by omega)):=List.getElem?_eq_getElem (by omega)
   obtain ⟨A,cap,hA,c0,c1,c2,c3,c4,c5⟩:=hv.get hx
   obtain ⟨B,cap',hB,d0,d1,d2,d3,d4,d5⟩:=hw.get hy
   have c:=hg _ (List.mem_of_getElem? hx) _ (List.mem_of_getElem? hy) _ _ hA hB
   have hoA:=hA.ok
   have hoB:=hB.ok
   clear hg hA hB
   generalize a[k]=x at *
   generalize (b[k]'(by omega))=y at *
   generalize hq:decide (Tr.free f x=Tr.free f y)=q at *
   obtain ⟨⟨x0,x1,x2,x3,x4⟩,xo⟩:=x
   obtain ⟨⟨y0,y1,y2,y3,y4⟩,yo⟩:=y
   simp only [Tr.cs,List.cons_append,List.nil_append] at c c0 c1 c2 c3 c4 c5 d0 d1 d2 d3 d4 d5 hoA hoB
   cases q with
   | true =>
    repeat' first|(intro K hK;(with_reducible refine gC ?_);refine cS [0] c ?_)|(refine sxZ ?_;try clear hK K)|refine sxW ?_ ?_<;>intro _|(intro K hK _;conv=>whnf)
    refine aB (k+1) ⟨hlt,fun j x' y' hj h1 h2=>?_⟩ (by omega) ?_ (MemFits.pre 1 rfl)
    ·by_cases e:j=k
     ·subst e
      rw [hx] at h1
      rw [hy] at h2
      injection h1 with h1
      injection h2 with h2
      rw [← h1,← h2];exact of_decide_eq_true hq
     ·exact hgone j x' y' (by omega) h1 h2
    ·exact aC
   | false =>
    have hne:Tr.alike f a b=false:=by
     cases h:Tr.alike f a b with
     | false=>rfl
     | true=>exact absurd ((hs.1 h).2 k _ _ hx hy) (of_decide_eq_false hq)
    rw [hne]
    repeat' first|(intro K hK;(with_reducible refine gC ?_);refine cS [0] c ?_)|(refine sxZ ?_;try clear hK K)|refine sxW ?_ ?_<;>intro _|(intro K hK _;conv=>whnf)
    all_goals exact ⟨rfl,MemFits.pre 1 rfl⟩
  ·have hy:Tr.alike f a b=true:=hs.2 ⟨hl,fun j x y h1 h2=>hgone j x y (by have:=(List.getElem?_eq_some_iff.1 h1).1;omega) h1 h2⟩
   rw [hy]
   repeat' first|(refine sxZ ?_;try clear hK K)|refine sxW ?_ ?_<;>intro _|(intro K hK _;conv=>whnf)
   all_goals exact ⟨rfl,MemFits.pre 1 rfl⟩
 ·have hne:Tr.alike f a b=false:=by
   cases h:Tr.alike f a b with
   | false=>rfl
   | true=>exact (hl (hs.1 h).1).elim
  rw [hne]
  repeat' first|(refine sxZ ?_;try clear hK K)|refine sxW ?_ ?_<;>intro _|(intro K hK _;conv=>whnf)
  all_goals exact ⟨rfl,MemFits.pre 1 rfl⟩
theorem px (F:Heap) (f:Int) (hf:Tr.ok f) (x y:Tr.C) (A B:Value) (hA:Po.SRow F A x.out) (hB:Po.SRow F B y.out) (ha:x.out.length≤1000) (hb:y.out.length≤1000) (b:Addr) (hc:F.c (b.add 0) (.int .i64 f)) :
  NCall Tryz.prog 155 [.agg (Tr.cs x A),.agg (Tr.cs y B),.hp b 0] [hpB F] fun r m=>r = .bool (decide (Tr.free f x=Tr.free f y))∧m=[hpB F]:=by
 refine NCall.fits (K:=fun r m=>r = .bool (decide (Tr.free f x=Tr.free f y))∧MemFits m [hpB F]) ?_ fun r m' h=>⟨r,_,rfl,h.2,h.1,rfl⟩
 have ce:=pN F A B x.out y.out hA hB (by omega) (by omega)
 have w1:=jn x.s f (-1) A x.out.length hf
 have w2:=jn y.s f (-1) B y.out.length hf
 have hoA:=hA.ok
 have hoB:=hB.ok
 have hfr:Tr.free f x=Tr.free f y↔Tr.withK f (-1) x.s=Tr.withK f (-1) y.s∧x.out=y.out:=by unfold Tr.free;simp only [Tr.C.mk.injEq]
 rw [show decide (Tr.free f x=Tr.free f y)=(decide (Tr.withK f (-1) x.s=Tr.withK f (-1) y.s)&&decide (x.out=y.out)) by simp [hfr]]
 clear hfr hA hB
 generalize Tr.withK f (-1) x.s=X at *
 generalize Tr.withK f (-1) y.s=Y at *
 obtain ⟨⟨x0,x1,x2,x3,x4⟩,xo⟩:=x
 obtain ⟨⟨y0,y1,y2,y3,y4⟩,yo⟩:=y
 simp only [Tr.cs] at *
 generalize decide (xo=yo)=q at *
 refine aA Tryz.func155 rfl (by decide) ?_
 by_cases hXY:X=Y
 ·subst hXY
  obtain ⟨X0,X1,X2,X3,X4⟩:=X
  simp only at w1 w2
  repeat' first|((try intro K hK);(with_reducible refine gC ?_);first|refine cP w1 ?_|refine cP w2 ?_|refine cS [0] ce ?_)|((first|intro A B hA hB|intro K hK|skip);first|((with_reducible refine NIf.yes ?s ?_);(case s=>simp ;done);conv=>whnf)|((with_reducible refine NIf.no ?s ?_);(case s=>simp ;done);conv=>whnf))|(refine aV [1,2] ?_;(try clear hK K);try clear hA hB A B)|refine sxW ?_ ?_<;>intro _|refine aW ?_ ?_|(intro K hK _;conv=>whnf)
  all_goals exact ⟨by simp,MemFits.pre 1 rfl⟩
 ·obtain ⟨X0,X1,X2,X3,X4⟩:=X
  obtain ⟨Y0,Y1,Y2,Y3,Y4⟩:=Y
  rw [decide_eq_false hXY]
  simp only at w1 w2
  by_cases hp:X0=Y0
  ·have hnb:(decide (X1=Y1)&&(decide (X2=Y2)&&(decide (X3=Y3)&&(decide (X4=Y4)&&true))))=false:=by
    refine Bool.eq_false_iff.2 fun h=>hXY ?_
    simp only [Bool.and_eq_true,decide_eq_true_eq,and_true] at h
    obtain ⟨rfl,rfl,rfl,rfl⟩:=h
    rw [hp]
   repeat' first|((try intro K hK);(with_reducible refine gC ?_);first|refine cP w1 ?_|refine cP w2 ?_|refine cS [0] ce ?_)|((first|intro A B hA hB|intro K hK|skip);first|((with_reducible refine NIf.yes ?s ?_);(case s=>(rw [hnb];rfl));conv=>whnf)|((with_reducible refine NIf.no ?s ?_);(case s=>(rw [hnb];rfl));conv=>whnf))|(refine aV [1,2] ?_;(try clear hK K);try clear hA hB A B)|refine sxW ?_ ?_<;>intro _|refine aW ?_ ?_|(intro K hK _;conv=>whnf)
   all_goals first | (exfalso;omega) | exact ⟨by simp,MemFits.pre 1 rfl⟩
  ·repeat' first|(intro K hK;(with_reducible refine gC ?_);first|refine cP w1 ?_|refine cP w2 ?_|refine cS [0] ce ?_)|(refine aV [1,2] ?_;try clear hK K)|refine sxW ?_ ?_<;>intro _|refine aW ?_ ?_|(intro K hK _;conv=>whnf)
   all_goals first | (exfalso;omega) | exact ⟨by simp,MemFits.pre 1 rfl⟩
theorem oB (F:Heap) (f:Int) (hf:Tr.ok f) (v w:Value) (a b:List Tr.C) (hv:Tr.Row F v a) (hw:Tr.Row F w b) (ha:a.length≤4611686018427387904) (hb:b.length≤4611686018427387904) (ha2:∀ c∈a,c.out.length≤1000) (hb2:∀ c∈b,c.out.length≤1000) :
  NCall Tryz.prog 114 [.hs v a.length,.hs w b.length,.int .i64 f] [hpB F] fun r m=>r = .bool (Tr.alike f a b)∧m=[hpB F]:=by
 refine NCall.fits (K:=fun r m=>r = .bool (Tr.alike f a b)∧MemFits m [hpB F]) ?_ fun r m' h=>⟨r,_,rfl,h.2,h.1,rfl⟩
 have kE:∀ c:Nat,NCall Tryz.prog 154 [.hs v a.length,.hs w b.length,.fn 155 [] [.ptr 1 ⟨c,0,none⟩ 0]] [hpB F,⟨⟨c,0,none⟩,[.int .i64 f],.var 3⟩] fun r m=>r = .bool (Tr.alike f a b)∧m=[hpB F,⟨⟨c,0,none⟩,[.int .i64 f],.var 3⟩]:=fun c=>by
  have hnew:=addF.new (F:=F) (a:=⟨c,0,none⟩) (vs:=denL [.int .i64 f])
  obtain ⟨d0,_⟩:=hnew
  exact NCall.keep (pO (addF F ⟨c,0,none⟩ (denL [.int .i64 f])) f v w a b (Tr.Row.mono addF.old hv) (Tr.Row.mono addF.old hw) ha hb 155 [.hp ⟨c,0,none⟩ 0] fun x hx y hy A B hA hB=>px _ f hf x y A B hA hB (ha2 x hx) (hb2 y hy) _ d0) rfl (MemFits.freezeVar (m:=[])) rfl fun r mL' h=>⟨r,rfl,h.1,rfl⟩
 have hok:=hv.ok
 have hok2:=hw.ok
 refine aA Tryz.func114 rfl (by decide) ?_
 repeat' first|(intro K hK;(with_reducible refine gC ?_);refine cS [0,1] (kE _) ?_)|(refine sxZ ?_;try clear hK K)|refine sxW ?_ ?_<;>intro _|(intro K hK _;conv=>whnf)
 all_goals exact ⟨rfl,MemFits.pre 1 rfl⟩
namespace Tr
structure Mk (F:Heap) (a:Addr) (y:Po.T) (sw:Int) (pu u:Value):Prop where
 p:Po.At F y pu u
 c:CellsF F a 0 (denL (Po.cs y pu u++[.int .i64 sw]))
 v:∀ f:Int,ok f→∃ A cap,Srt.Row F (.slice A (Po.values f y).length cap) (Po.values f y)∧F.c (a.add (9+f.toNat)) (.slice A (Po.values f y).length cap)
theorem Mk.mono {F G:Heap} (h:F.le G) {a:Addr} {y:Po.T} {sw:Int} {pu u:Value} (hm:Mk F a y sw pu u):Mk G a y sw pu u :=
 ⟨Po.At.mono h hm.p,hm.c.mono h,fun f hf=>by
  obtain ⟨A,cap,h1,h2⟩:=hm.v f hf
  exact ⟨A,cap,aH.mono h (fun _ _ h=>h) h1,h.c _ _ h2⟩⟩
def part (sw:Int) (y:Po.T) (f:Int) (rest:List Int) (s:Po.S) (i:Nat):List C:=((Po.values f y).take i).flatMap fun v=>some_ f (cases sw y rest s) (cases sw y rest (withK f v s))
theorem part_next (sw:Int) (y:Po.T) (f:Int) (rest:List Int) (s:Po.S) {i:Nat} (h:i<(Po.values f y).length):part sw y f rest s (i+1)=part sw y f rest s i++some_ f (cases sw y rest s) (cases sw y rest (withK f (Po.values f y)[i] s)):=by
 unfold part
 rw [List.take_add_one,List.getElem?_eq_getElem h,List.flatMap_append]
 simp
theorem part_len (sw:Int) (y:Po.T) (f:Int) (rest:List Int) (s:Po.S) (i:Nat) (hi:i≤(Po.values f y).length):(part sw y f rest s i).length≤(Po.values f y).length*cnt y rest:=by
 have h1:=flat_len (fun v=>some_ f (cases sw y rest s) (cases sw y rest (withK f v s))) (cnt y rest) ((Po.values f y).take i) fun v _=>Nat.le_trans (some_len _ _ _) (cases_len sw y rest _)
 have h2:((Po.values f y).take i).length*cnt y rest≤(Po.values f y).length*cnt y rest:=Nat.mul_le_mul_right _ (List.length_take_le' ..)
 unfold part
 omega
theorem cases_part (sw:Int) (y:Po.T) (f:Int) (rest:List Int) (s:Po.S):cases sw y (f::rest) s=part sw y f rest s (Po.values f y).length++cases sw y rest s:=by rw [cases,part,List.take_length]
end Tr
theorem Tr.vget {F:Heap} {v:Value} {l:List Int} (h:Srt.Row F v l) {i:Nat} {x:Int} (hx:l[i]?=some x):F.c ((addrOf v).add i) (.int .i64 x):=by
 obtain ⟨us,rfl,_,h2⟩:=h.at_ i x hx
 rw [Nat.mul_one] at h2
 exact h2.1
abbrev Tr.LaysR (F:Heap) (l:List Tr.C) (r:AV) (m:List Blk):Prop:=∃ F' v,∃ qs:List Tr.L,F.le F'∧Tr.Row F' v l∧SlOk v l.length∧qs.map (·.x)=l∧(∀ p∈qs,Po.SRow F' p.v p.x.out)∧(Tr.psC qs).length=l.length*6∧CellsF F' (addrOf v) 0 (denL (Tr.psC qs))∧r = .hs v l.length∧m=[hpB F']
theorem Tr.Lays.reads {F:Heap} {l:List Tr.C} {r:AV} {m:List Blk} (h:Tr.Lays F l r m):Tr.LaysR F l r m:=by
 obtain ⟨F',v,h1,h2,h3,h4⟩:=h
 obtain ⟨qs,q1,q2,q3,q4⟩:=h2.reads
 exact ⟨F',v,qs,h1,h2,h2.ok,q1,q2,q3,q4,h3,h4⟩
theorem n9 (F:Heap) (a:Addr) (y:Po.T) (sw:Int) (pu u:Value) (s:Po.S) (fv:Value) (hs:Po.tot y≤4611686018427387904) (hf:Po.fits y=true) (hl:∀ s,(Po.runs sw y s).length≤1000) (hok:SlOk fv 0) (hm:Tr.Mk F a y sw pu u) :
  NCall Tryz.prog 86 [.hp a 0,.hs fv 0,.agg [.int .i64 s.port,.int .i64 s.p0,.int .i64 s.p1,.int .i64 s.p2,.int .i64 s.p3,.raw (.slice none 0 0)]] [hpB F] fun r m=>Tr.Lays F [⟨s,Tr.outs sw y s⟩] r m:=by
 refine Tr.rows_know (t:=112) ?_
 have cl:=o5 F sw y pu u a s hs hf (hl s) hm.p hm.c
 generalize Tr.outs sw y s=O at *
 clear hm hl hf hs
 obtain ⟨s0,s1,s2,s3,s4⟩:=s
 simp only [Tr.Lay1,Tr.cs] at *
 refine aA Tryz.func86 rfl (by decide) ?_
 repeat' first|(intro K hK;(with_reducible refine gC ?_);(refine cN [0] cl ?_;rintro _ _ ⟨G,w,hle,hw,rfl,rfl⟩;refine cR ?_))|(refine sxZ ?_;try clear hK K)|refine sxW ?_ ?_<;>intro _|(intro K hK _;conv=>whnf)
 all_goals
  rename_i v9
  exact ⟨G,.slice (some ⟨v9,0,none⟩) 1 1,[⟨⟨⟨s0,s1,s2,s3,s4⟩,O⟩,w⟩],hle,rfl,fun p hp=>by rw [List.mem_singleton.1 hp];exact hw,rfl,MemFits.pick [0,2] (by decide) rfl⟩
theorem nz (F:Heap) (a:Addr) (y:Po.T) (sw:Int) (pu u:Value) (s:Po.S) (f:Int) (rest:List Int) (fv:Value) (hfo:Tr.ok f) (hc:Tr.cnt y (f::rest)≤1000000) (hl:∀ s,(Po.runs sw y s).length≤1000) (hfv:Po.IRow F fv (f::rest)) (hm:Tr.Mk F a y sw pu u)
  (ih:∀ (G:Heap) (s:Po.S) (gv:Value),F.le G→Po.IRow G gv rest→NCall Tryz.prog 86 [.hp a 0,.hs gv rest.length,.agg [.int .i64 s.port,.int .i64 s.p0,.int .i64 s.p1,.int .i64 s.p2,.int .i64 s.p3,.raw (.slice none 0 0)]] [hpB G] fun r m=>Tr.Lays G (Tr.cases sw y rest s) r m) :
  NCall Tryz.prog 86 [.hp a 0,.hs fv (f::rest).length,.agg [.int .i64 s.port,.int .i64 s.p0,.int .i64 s.p1,.int .i64 s.p2,.int .i64 s.p3,.raw (.slice none 0 0)]] [hpB F] fun r m=>Tr.Lays F (Tr.cases sw y (f::rest) s) r m:=by
 refine Tr.rows_know (t:=112) ?_
 have hcut:Po.IRow F (cutSl fv 1 1 (rest.length+1)) rest:=by
  have h:=hfv.cut (lo:=1) (hi:=rest.length+1) (by omega) (by simp)
  have e:((f::rest).drop 1).take (rest.length+1 - 1)=rest:=by simp
  rw [e] at h
  exact h
 have hcr:Tr.cnt y rest≤1000000:=by
  rw [Tr.cnt,Nat.succ_mul] at hc
  omega
 have hcl:=fun b=>Tr.cases_len sw y rest b
 have c0:=hfv.at1 (i:=0) rfl
 have hok:SlOk fv (rest.length+1):=hfv.ok
 rw [show (f::rest).length=rest.length+1 from rfl]
 obtain ⟨A,cap,hV,cV⟩:=hm.v f hfo
 have hVo:=hV.ok
 have ca:=fun G v w b (hv:Tr.Row G v (Tr.cases sw y rest b)) (hw:Tr.Row G w (Tr.cases sw y rest s))=>oB G f hfo v w _ _ hv hw (by have:=hcl b;omega) (by have:=hcl s;omega) (Tr.cases_out_len sw y 1000 hl rest b) (Tr.cases_out_len sw y 1000 hl rest s)
 have c1:=(ih F s _ F.le_refl hcut).mono (K':=fun r m=>∃ G w,F.le G∧Tr.Row G w (Tr.cases sw y rest s)∧SlOk w (Tr.cases sw y rest s).length∧G.c (a.add (9+f.toNat)) (.slice A (Po.values f y).length cap)∧r = .hs w (Tr.cases sw y rest s).length∧m=[hpB G]) fun r m ⟨G,w,h1,h2,h3,h4⟩=>⟨G,w,h1,h2,h2.ok,h1.c _ _ cV,h3,h4⟩
 have hpl:=Tr.part_len sw y f rest s
 have hpn:=fun i h=>Tr.part_next sw y f rest s (i:=i) h
 have hp0:Tr.part sw y f rest s 0=[]:=rfl
 have hend:Tr.cases sw y (f::rest) s=Tr.part sw y f rest s (Po.values f y).length++Tr.cases sw y rest s:=Tr.cases_part sw y f rest s
 have hcm:(Po.values f y).length*Tr.cnt y rest≤1000000:=by
  rw [Tr.cnt,Nat.succ_mul] at hc
  omega
 have hvl:(Po.values f y).length≤1000000:=by
  have h1:=Nat.mul_le_mul_left (Po.values f y).length (Tr.cnt_pos y rest)
  omega
 rw [hend]
 clear hend hm hl hc cV
 generalize Tr.part sw y f rest s=part at *
 generalize hvs:Po.values f y=vs at *
 generalize hot:Tr.cases sw y rest s=other at *
 have hol:other.length≤1000000:=by rw [← hot];have:=hcl s;omega
 clear hfv hvs
 refine aA Tryz.func86 rfl (by decide) ?_
 repeat' first|(intro K hK;(with_reducible refine gC ?_);(refine cN [0] c1 ?_;rintro _ _ ⟨G1,w,hle,hw,hwo,hcv,rfl,rfl⟩;refine cR ?_))|(refine aV [] ?_;try clear hK K)|refine sxW ?_ ?_<;>intro _|refine aW ?_ ?_|(intro K hK _;conv=>whnf)
 refine aD (α:=Heap × Value × List Tr.L × Nat) (fun (G,u,ps,i)=>G1.le G∧i≤vs.length∧ps.map (·.x)=part i∧∀ p∈ps,Po.SRow G p.v p.x.out) (fun (G,u,ps,i)=>[.k,.k,.k,.k,.k,.k,.k,.k,.k,.k,.set (.sl 2 u ps.length),.k,.d,.d,.k,.k,.k,.k,.k,.k,.k,.k,.k,.k,.k,.k,.k,.k,.k,.k,.k,.k,.k,.k,.k,.k,.k,.set (.int .i64 i),.d,.d,.d,.d,.d,.d,.d,.d,.d,.d,.d,.d,.d,.d,.d,.d,.d,.d,.d,.k,.k,.k])
  (fun (G,u,ps,i)=>[.set (hpB G),.k,.set ⟨addrOf u,Tr.psC ps,.row u 112 6 ps.length⟩]) (fun (G,u,ps,i)=>vs.length - i) (G1,.slice none 0 0,[],0) ⟨G1.le_refl,Nat.zero_le _,hp0.symm,fun p hp=>by simp at hp⟩ ?_ ?_ ?_
 ·exact aC
 ·exact (MemFits.nilRow _ 112 6).trans (MemFits.congr rfl)
 (intro ⟨G,u,ps,i⟩ ⟨hle2,hi,hmap,hall⟩;intro K hK;(conv=>whnf);refine hK _ _ ?_;clear hK K)
 dsimp only
 have hpsl:ps.length=(part i).length:=by rw [← hmap,List.length_map]
 have hpb:=hpl i hi
 have hwG:=Tr.Row.mono hle2 hw
 by_cases hlt:i<vs.length
 ·have hx:vs[i]?=some vs[i]:=List.getElem?_eq_getElem hlt
  have v0:=(hle.trans hle2).c _ _ (Tr.vget hV hx)
  have hnx:=hpn i hlt
  clear hpn hpl c1
  generalize vs[i]=v at *
  have cw:=oI s f v hfo
  have ci:=(ih G (Tr.withK f v s) _ (hle.trans hle2) (aH.mono (hle.trans hle2) (fun _ _ h=>h) hcut)).mono (K':=fun r m=>Tr.LaysR G (Tr.cases sw y rest (Tr.withK f v s)) r m) fun r m h=>Tr.Lays.reads h
  have ca:=fun G' v' (h1:Tr.Row G' v' (Tr.cases sw y rest (Tr.withK f v s))) (h2:G.le G')=>ca G' v' w _ h1 (Tr.Row.mono h2 hwG)
  have hll:=hcl (Tr.withK f v s)
  clear ih hcl
  generalize hs2:Tr.withK f v s=s2 at *
  generalize Tr.cases sw y rest s2=l at *
  by_cases hal:Tr.alike f l other=true
  ·rw [hal] at ca
   rw [Tr.some_,if_pos hal,List.append_nil] at hnx
   repeat' first|(intro K hK;(with_reducible refine gC ?_);first|refine cP cw ?_|(refine cN [0] ci ?_;rintro _ _ ⟨G2,v2,qs,hle3,hv2,hv2o,hq1,hq2,hq3,hq4,rfl,rfl⟩;refine cR ?_)|refine cS [0] (ca G2 v2 hv2 hle3) ?_)|(refine sxZ ?_;try clear hK K)|refine sxW ?_ ?_<;>intro _|(intro K hK _;conv=>whnf)
   all_goals
    refine aB (G2,u,ps,i+1) ⟨hle2.trans hle3,hlt,hmap.trans hnx.symm,fun p hp=>Tr.srow_mono hle3 (hall p hp)⟩ (by show vs.length - (i+1)<vs.length - i;omega) ?_ (MemFits.eq rfl)
    exact aC
  ·have hal:Tr.alike f l other=false:=by simpa using hal
   rw [hal] at ca
   rw [Tr.some_,hal,if_neg (by decide)] at hnx
   have hpc:=Tr.psC_len ps
   have hapd:=fun qs=>Tr.psC_append ps qs
   generalize hpsc:Tr.psC ps=pc at *
   repeat' first|((try intro K hK);(with_reducible refine gC ?_);first|refine cP cw ?_|(refine cN [0] ci ?_;rintro _ _ ⟨G2,v2,qs,hle3,hv2,hv2o,hq1,hq2,hq3,hq4,rfl,rfl⟩;refine cR ?_)|refine cS [0] (ca G2 v2 hv2 hle3) ?_)|((try intro K hK);(refine NRd.of (Tr.psC qs) hq3 hq4 ?_;conv=>whnf))|((try intro K hK);(with_reducible refine NH.mk ?s ?_);(case s=>(and_intros<;>first|with_reducible rfl|omega|(first | exact Tr.ones_psC _ | rfl | assumption)));conv=>whnf)|(refine sxZ ?_;try clear hK K)|refine sxW ?_ ?_<;>intro _|(intro K hK _;conv=>whnf)|(intro _;conv=>whnf)
   all_goals
    rename_i v9
    have hql:qs.length=l.length:=by rw [← hq1,List.length_map]
    refine aB (G2,v9,ps++qs,i+1) ⟨hle2.trans hle3,hlt,by rw [List.map_append,hmap,hq1];exact hnx.symm,fun p hp=>?_⟩ (by show vs.length - (i+1)<vs.length - i;omega) ?_ (MemFits.pre 3 ?_)
    ·rcases List.mem_append.1 hp with hp | hp
     ·exact Tr.srow_mono hle3 (hall p hp)
     ·exact hq2 p hp
    ·simp only [List.length_append,hql]
     exact aC
    ·simp only [autoM,List.length_append,hql,hapd]
     rfl
 ·obtain rfl:i=vs.length:=by omega
  obtain ⟨qs,hq1,hq2,hq3,hq4⟩:=hwG.reads
  have hql:qs.length=other.length:=by rw [← hq1,List.length_map]
  have hpc:=Tr.psC_len ps
  have hapd:=Tr.psC_append ps qs
  generalize hpsc:Tr.psC ps=pc at *
  clear ih ca c1 hcl
  repeat' first|((try intro K hK);(refine NRd.of (Tr.psC qs) hq3 hq4 ?_;conv=>whnf))|((try intro K hK);(with_reducible refine NH.mk ?s ?_);(case s=>(and_intros<;>first|with_reducible rfl|omega|(first | exact Tr.ones_psC _ | rfl | assumption)));conv=>whnf)|(refine sxZ ?_;try clear hK K)|refine sxW ?_ ?_<;>intro _|(intro K hK _;conv=>whnf)|(intro _;conv=>whnf)
  all_goals
   rename_i v9
   refine ⟨G,v9,ps++qs,hle.trans hle2,by rw [List.map_append,hmap,hq1],fun p hp=>?_,rfl,?_⟩
   ·rcases List.mem_append.1 hp with hp | hp
    ·exact hall p hp
    ·exact hq2 p hp
   ·rw [hapd,List.length_append,hql]
    exact MemFits.pick [0,2] (by decide) rfl
theorem i6 (y:Po.T) (sw:Int) (a:Addr) (pu u:Value) (hs:Po.tot y≤4611686018427387904) (hf:Po.fits y=true) (hl:∀ s,(Po.runs sw y s).length≤1000):∀ (fs:List Int) (F:Heap) (s:Po.S) (fv:Value),(∀ f∈fs,Tr.ok f)→Tr.cnt y fs≤1000000→Po.IRow F fv fs→Tr.Mk F a y sw pu u →
  NCall Tryz.prog 86 [.hp a 0,.hs fv fs.length,.agg [.int .i64 s.port,.int .i64 s.p0,.int .i64 s.p1,.int .i64 s.p2,.int .i64 s.p3,.raw (.slice none 0 0)]] [hpB F] fun r m=>Tr.Lays F (Tr.cases sw y fs s) r m
 | [],F,s,fv,_,_,hfv,hm=>by
  rw [Tr.cases]
  exact n9 F a y sw pu u s fv hs hf hl hfv.ok hm
 | f::rest,F,s,fv,hok,hc,hfv,hm=>nz F a y sw pu u s f rest fv (hok f (by simp)) hc hl hfv hm fun G s gv hG hgv =>
  i6 y sw a pu u hs hf hl rest G s gv (fun g hg=>hok g (by simp [hg])) (by rw [Tr.cnt,Nat.succ_mul] at hc;omega) hgv (hm.mono hG)
namespace Tp
structure Lk where
 a:Int
 pa:Int
 b:Int
 pb:Int
 least:Int
 most:Int
structure Hs where
 at_:Int
 port:Int
structure T where
 n:Int
 ls:List Lk
 hs:List Hs
def lkV (x:Lk):List Value:=[.int .i64 x.a,.int .i64 x.pa,.int .i64 x.b,.int .i64 x.pb,.int .i64 x.least,.int .i64 x.most]
def hsV (x:Hs):List Value:=[.int .i64 x.at_,.int .i64 x.port]
abbrev LRow (F:Heap) (v:Value) (l:List Lk):Prop:=aH F 6 (fun x us=>us=lkV x) v l
abbrev HRow (F:Heap) (v:Value) (l:List Hs):Prop:=aH F 2 (fun x us=>us=hsV x) v l
structure At (F:Heap) (t:T) (lv hv:Value):Prop where
 l:LRow F lv t.ls
 h:HRow F hv t.hs
theorem LRow.mono {F G:Heap} (h:F.le G) {v:Value} {l:List Lk} (hv:LRow F v l):LRow G v l:=aH.mono h (fun _ _ hp=>hp) hv
theorem HRow.mono {F G:Heap} (h:F.le G) {v:Value} {l:List Hs} (hv:HRow F v l):HRow G v l:=aH.mono h (fun _ _ hp=>hp) hv
theorem At.mono {F G:Heap} (h:F.le G) {t:T} {lv hv:Value} (ht:At F t lv hv):At G t lv hv:=⟨LRow.mono h ht.l,HRow.mono h ht.h⟩
def cs (t:T) (lv hv:Value):List AV:=[.int .i64 t.n,.hs lv t.ls.length,.hs hv t.hs.length]
def lkC (x:Lk):List AV:=[.int .i64 x.a,.int .i64 x.pa,.int .i64 x.b,.int .i64 x.pb,.int .i64 x.least,.int .i64 x.most]
def hsC (x:Hs):List AV:=[.int .i64 x.at_,.int .i64 x.port]
theorem LRow.get {F:Heap} {v:Value} {l:List Lk} (h:LRow F v l) {i:Nat} {x:Lk} (hx:l[i]?=some x) :
  F.c ((addrOf v).add (i*6)) (.int .i64 x.a)∧F.c ((addrOf v).add (i*6+1)) (.int .i64 x.pa)∧F.c ((addrOf v).add (i*6+2)) (.int .i64 x.b)∧F.c ((addrOf v).add (i*6+3)) (.int .i64 x.pb)∧F.c ((addrOf v).add (i*6+4)) (.int .i64 x.least)∧F.c ((addrOf v).add (i*6+5)) (.int .i64 x.most):=by
 obtain ⟨us,rfl,_,h2⟩:=h.at_ i x hx
 simp only [lkV,CellsF,Nat.add_assoc,Nat.reduceAdd] at h2
 obtain ⟨c0,c1,c2,c3,c4,c5,_⟩:=h2
 exact ⟨c0,c1,c2,c3,c4,c5⟩
theorem HRow.get {F:Heap} {v:Value} {l:List Hs} (h:HRow F v l) {i:Nat} {x:Hs} (hx:l[i]?=some x) :
  F.c ((addrOf v).add (i*2)) (.int .i64 x.at_)∧F.c ((addrOf v).add (i*2+1)) (.int .i64 x.port):=by
 obtain ⟨us,rfl,_,h2⟩:=h.at_ i x hx
 simp only [hsV,CellsF] at h2
 obtain ⟨c0,c1,_⟩:=h2
 exact ⟨c0,c1⟩
def lNamed (p:Int) (x:Lk):Bool:=decide (x.pa=p)||decide (x.pb=p)
def hNamed (p:Int) (x:Hs):Bool:=decide (x.port=p)
def named (t:T) (p:Int):Bool:=t.ls.any (lNamed p)||t.hs.any (hNamed p)
end Tp
section
variable (F:Heap)
theorem iG {α:Type} {q:α→Bool} {l:List α} {k:Nat} {x:α} (hx:l[k]?=some x):(l.take (k+1)).any q=((l.take k).any q||q x):=by
 rw [List.take_add_one,hx,List.any_append]
 simp
theorem mI {α:Type} {q:α→Bool} {l:List α} {k:Nat} {x:α} (hx:l[k]?=some x) (h:q x=true):l.any q=true:=List.any_eq_true.2 ⟨x,List.mem_of_getElem? hx,h⟩
theorem ng (q:Tp.Lk→Bool) (v:Value) (l:List Tp.Lk) (hv:Tp.LRow F v l) (hn:l.length≤4611686018427387904) (g:FuncId) (first captured:List AV)
  (hg:∀ x∈l,NCall Tryz.prog g (first++[.agg (Tp.lkC x)]++captured) [hpB F] fun r m=>r = .bool (q x)∧m=[hpB F]) :
  NCall Tryz.prog 109 [.hs v l.length,.fn g first captured] [hpB F] fun r m=>(∃ j:Int,r = .int .i64 j∧(0≤j↔l.any q=true))∧m=[hpB F]:=by
 have hok:=hv.ok
 refine aA Tryz.func109 rfl (by decide) ?_
 repeat' first|(refine sxZ ?_;try clear hK K)|refine sxW ?_ ?_<;>intro _|(intro K hK _;conv=>whnf)
 refine aD (α:=Nat) (fun k=>k≤l.length∧(l.take k).any q=false) (fun k=>[.k,.k,.k,.k,.d,.d,.k,.k,.set (.int .i64 k),.d,.d,.d,.d,.d,.d,.d,.d,.d,.d]) (fun _=>[]) (fun k=>l.length - k) 0 ⟨Nat.zero_le _,rfl⟩ ?_ (MemFits.eq rfl) ?_
 ·exact aC
 (intro k ⟨hk,hgone⟩;intro K hK;(conv=>whnf);refine hK _ _ ?_;clear hK K)
 by_cases hlt:k<l.length
 ·have hx:l[k]?=some l[k]:=List.getElem?_eq_getElem hlt
  obtain ⟨c0,c1,c2,c3,c4,c5⟩:=hv.get hx
  have c:=hg _ (List.getElem_mem hlt)
  have hnx:=iG (q:=q) hx
  have hat:=mI (q:=q) hx
  generalize l[k]=x at *
  simp only [Tp.lkC] at c
  cases hq:q x with
  | false =>
   rw [hq] at c
   repeat' first|(intro K hK;(with_reducible refine gC ?_);refine cS [0] c ?_)|(refine sxZ ?_;try clear hK K)|refine sxW ?_ ?_<;>intro _|(intro K hK _;conv=>whnf)
   refine aB (k+1) ⟨hlt,by rw [hnx,hgone,hq];rfl⟩ (by omega) ?_ (MemFits.eq rfl)
   exact aC
  | true =>
   rw [hq] at c
   repeat' first|(intro K hK;(with_reducible refine gC ?_);refine cS [0] c ?_)|(refine sxZ ?_;try clear hK K)|refine sxW ?_ ?_<;>intro _|(intro K hK _;conv=>whnf)
   exact ⟨⟨_,rfl,⟨fun _=>hat hq,fun _=>by omega⟩⟩,rfl⟩
 ·have hkl:k=l.length:=by omega
  subst hkl
  rw [List.take_length] at hgone
  repeat' first|(refine sxZ ?_;try clear hK K)|refine sxW ?_ ?_<;>intro _|(intro K hK _;conv=>whnf)
  exact ⟨⟨_,rfl,⟨fun h=>by omega,fun h=>by rw [hgone] at h;cases h⟩⟩,rfl⟩
theorem jb (q:Tp.Lk→Bool) (v:Value) (l:List Tp.Lk) (hv:Tp.LRow F v l) (hn:l.length≤4611686018427387904) (g:FuncId) (first captured:List AV)
  (hg:∀ x∈l,NCall Tryz.prog g (first++[.agg (Tp.lkC x)]++captured) [hpB F] fun r m=>r = .bool (q x)∧m=[hpB F]) :
  NCall Tryz.prog 81 [.hs v l.length,.fn g first captured] [hpB F] fun r m=>r = .bool (l.any q)∧m=[hpB F]:=by
 have hi:=ng F q v l hv hn g first captured hg
 refine aA Tryz.func81 rfl (by decide) ?_
 repeat' first|(intro K hK;(with_reducible refine gC ?_);(refine cN [0] hi ?_;rintro _ _ ⟨⟨j,rfl,hj⟩,rfl⟩;refine cR ?_))|(refine sxZ ?_;try clear hK K)|refine sxW ?_ ?_<;>intro _|(intro K hK _;conv=>whnf)
 all_goals
  refine ⟨?_,rfl⟩
  congr 1
  by_cases h:0≤j
  ·rw [hj.1 h];exact decide_eq_true h
  ·rw [show l.any q=false by cases e:l.any q with | false=>rfl | true=>exact (h (hj.2 e)).elim];exact decide_eq_false h
theorem nh (q:Tp.Hs→Bool) (v:Value) (l:List Tp.Hs) (hv:Tp.HRow F v l) (hn:l.length≤4611686018427387904) (g:FuncId) (first captured:List AV)
  (hg:∀ x∈l,NCall Tryz.prog g (first++[.agg (Tp.hsC x)]++captured) [hpB F] fun r m=>r = .bool (q x)∧m=[hpB F]) :
  NCall Tryz.prog 110 [.hs v l.length,.fn g first captured] [hpB F] fun r m=>(∃ j:Int,r = .int .i64 j∧(0≤j↔l.any q=true))∧m=[hpB F]:=by
 have hok:=hv.ok
 refine aA Tryz.func110 rfl (by decide) ?_
 repeat' first|(refine sxZ ?_;try clear hK K)|refine sxW ?_ ?_<;>intro _|(intro K hK _;conv=>whnf)
 refine aD (α:=Nat) (fun k=>k≤l.length∧(l.take k).any q=false) (fun k=>[.k,.k,.k,.k,.d,.d,.k,.k,.set (.int .i64 k),.d,.d,.d,.d,.d,.d,.d,.d,.d,.d]) (fun _=>[]) (fun k=>l.length - k) 0 ⟨Nat.zero_le _,rfl⟩ ?_ (MemFits.eq rfl) ?_
 ·exact aC
 (intro k ⟨hk,hgone⟩;intro K hK;(conv=>whnf);refine hK _ _ ?_;clear hK K)
 by_cases hlt:k<l.length
 ·have hx:l[k]?=some l[k]:=List.getElem?_eq_getElem hlt
  obtain ⟨c0,c1⟩:=hv.get hx
  have c:=hg _ (List.getElem_mem hlt)
  have hnx:=iG (q:=q) hx
  have hat:=mI (q:=q) hx
  generalize l[k]=x at *
  simp only [Tp.hsC] at c
  cases hq:q x with
  | false =>
   rw [hq] at c
   repeat' first|(intro K hK;(with_reducible refine gC ?_);refine cS [0] c ?_)|(refine sxZ ?_;try clear hK K)|refine sxW ?_ ?_<;>intro _|(intro K hK _;conv=>whnf)
   refine aB (k+1) ⟨hlt,by rw [hnx,hgone,hq];rfl⟩ (by omega) ?_ (MemFits.eq rfl)
   exact aC
  | true =>
   rw [hq] at c
   repeat' first|(intro K hK;(with_reducible refine gC ?_);refine cS [0] c ?_)|(refine sxZ ?_;try clear hK K)|refine sxW ?_ ?_<;>intro _|(intro K hK _;conv=>whnf)
   exact ⟨⟨_,rfl,⟨fun _=>hat hq,fun _=>by omega⟩⟩,rfl⟩
 ·have hkl:k=l.length:=by omega
  subst hkl
  rw [List.take_length] at hgone
  repeat' first|(refine sxZ ?_;try clear hK K)|refine sxW ?_ ?_<;>intro _|(intro K hK _;conv=>whnf)
  exact ⟨⟨_,rfl,⟨fun h=>by omega,fun h=>by rw [hgone] at h;cases h⟩⟩,rfl⟩
theorem jc (q:Tp.Hs→Bool) (v:Value) (l:List Tp.Hs) (hv:Tp.HRow F v l) (hn:l.length≤4611686018427387904) (g:FuncId) (first captured:List AV)
  (hg:∀ x∈l,NCall Tryz.prog g (first++[.agg (Tp.hsC x)]++captured) [hpB F] fun r m=>r = .bool (q x)∧m=[hpB F]) :
  NCall Tryz.prog 83 [.hs v l.length,.fn g first captured] [hpB F] fun r m=>r = .bool (l.any q)∧m=[hpB F]:=by
 have hi:=nh F q v l hv hn g first captured hg
 refine aA Tryz.func83 rfl (by decide) ?_
 repeat' first|(intro K hK;(with_reducible refine gC ?_);(refine cN [0] hi ?_;rintro _ _ ⟨⟨j,rfl,hj⟩,rfl⟩;refine cR ?_))|(refine sxZ ?_;try clear hK K)|refine sxW ?_ ?_<;>intro _|(intro K hK _;conv=>whnf)
 all_goals
  refine ⟨?_,rfl⟩
  congr 1
  by_cases h:0≤j
  ·rw [hj.1 h];exact decide_eq_true h
  ·rw [show l.any q=false by cases e:l.any q with | false=>rfl | true=>exact (h (hj.2 e)).elim];exact decide_eq_false h
theorem rN (x:Tp.Lk) (p:Int) (b:Addr) (h:F.c (b.add 0) (.int .i64 p)):NCall Tryz.prog 82 [.agg (Tp.lkC x),.hp b 0] [hpB F] fun r m=>r = .bool (Tp.lNamed p x)∧m=[hpB F]:=by
 refine NCall.fits (K:=fun r m=>r = .bool (Tp.lNamed p x)∧MemFits m [hpB F]) ?_ fun r m' h=>⟨r,_,rfl,h.2,h.1,rfl⟩
 obtain ⟨a,pa,b',pb,least,most⟩:=x
 simp only [Tp.lkC,Tp.hsC,Tp.lNamed,Tp.hNamed]
 refine aA Tryz.func82 rfl (by decide) ?_
 repeat' first|(refine sxZ ?_;try clear hK K)|refine sxW ?_ ?_<;>intro _|(intro K hK _;conv=>whnf)
 all_goals
  refine ⟨?_,MemFits.pre 1 rfl⟩
  simp_all
theorem rO (x:Tp.Hs) (p:Int) (b:Addr) (h:F.c (b.add 0) (.int .i64 p)):NCall Tryz.prog 84 [.agg (Tp.hsC x),.hp b 0] [hpB F] fun r m=>r = .bool (Tp.hNamed p x)∧m=[hpB F]:=by
 refine NCall.fits (K:=fun r m=>r = .bool (Tp.hNamed p x)∧MemFits m [hpB F]) ?_ fun r m' h=>⟨r,_,rfl,h.2,h.1,rfl⟩
 obtain ⟨at_,port⟩:=x
 simp only [Tp.lkC,Tp.hsC,Tp.lNamed,Tp.hNamed]
 refine aA Tryz.func84 rfl (by decide) ?_
 repeat' first|(refine sxZ ?_;try clear hK K)|refine sxW ?_ ?_<;>intro _|(intro K hK _;conv=>whnf)
 all_goals
  refine ⟨?_,MemFits.pre 1 rfl⟩
  simp_all
theorem nW (t:Tp.T) (lv hv:Value) (p:Int) (ht:Tp.At F t lv hv) (hl:t.ls.length≤1000) (hh:t.hs.length≤1000):NCall Tryz.prog 48 [.agg (Tp.cs t lv hv),.int .i64 p] [hpB F] fun r m=>r = .bool (Tp.named t p)∧m=[hpB F]:=by
 refine NCall.fits (K:=fun r m=>r = .bool (Tp.named t p)∧MemFits m [hpB F]) ?_ fun r m' h=>⟨r,_,rfl,h.2,h.1,rfl⟩
 have hlo:=ht.l.ok
 have hho:=ht.h.ok
 have cl:∀ b:Addr,NCall Tryz.prog 81 [.hs lv t.ls.length,.fn 82 [] [.ptr 1 b 0]] [hpB F,⟨b,[.int .i64 p],.var 3⟩] fun r m=>r = .bool (t.ls.any (Tp.lNamed p))∧m=[hpB F,⟨b,[.int .i64 p],.var 3⟩]:=fun b=>by
  have hnew:=addF.new (F:=F) (a:=b) (vs:=denL [.int .i64 p])
  obtain ⟨c0,_⟩:=hnew
  exact NCall.keep (jb (addF F b (denL [.int .i64 p])) (Tp.lNamed p) lv t.ls (Tp.LRow.mono addF.old ht.l) (by omega) 82 [] [.hp b 0] fun x _=>rN _ x p b c0) rfl (MemFits.freezeVar (m:=[])) rfl fun r mL' h=>⟨r,rfl,h.1,rfl⟩
 have ch:∀ b:Addr,NCall Tryz.prog 83 [.hs hv t.hs.length,.fn 84 [] [.ptr 1 b 0]] [hpB F,⟨b,[.int .i64 p],.var 3⟩] fun r m=>r = .bool (t.hs.any (Tp.hNamed p))∧m=[hpB F,⟨b,[.int .i64 p],.var 3⟩]:=fun b=>by
  have hnew:=addF.new (F:=F) (a:=b) (vs:=denL [.int .i64 p])
  obtain ⟨c0,_⟩:=hnew
  exact NCall.keep (jc (addF F b (denL [.int .i64 p])) (Tp.hNamed p) hv t.hs (Tp.HRow.mono addF.old ht.h) (by omega) 84 [] [.hp b 0] fun x _=>rO _ x p b c0) rfl (MemFits.freezeVar (m:=[])) rfl fun r mL' h=>⟨r,rfl,h.1,rfl⟩
 refine aA Tryz.func48 rfl (by decide) ?_
 unfold Tp.named Tp.cs
 generalize t.ls.any (Tp.lNamed p)=bl at *
 generalize t.hs.any (Tp.hNamed p)=bh at *
 cases bl
 iterate 2
  ·repeat' first|(intro K hK;(with_reducible refine gC ?_);first|refine cS [0,2] (cl _) ?_|refine cS [0,2] (ch _) ?_)|(refine aV [] ?_;try clear hK K)|refine sxW ?_ ?_<;>intro _|refine aW ?_ ?_|(intro K hK _;conv=>whnf)
   all_goals exact ⟨rfl,MemFits.pre 1 rfl⟩
end
section
variable (F:Heap)
theorem ko:∀ (n:Nat) (x:Po.T) (pu u:Value),Po.tot x≤n→Po.tot x≤4611686018427387904→Po.At F x pu u →
  NCall Tryz.prog 73 [.agg (Po.cs x pu u)] [hpB F] fun r m=>r = .int .i64 (Po.deep x:Nat)∧m=[hpB F]
 | 0,x,pu,u,hn,_,_=>absurd (Po.tot_pos x) (by omega)
 | n+1,⟨k,p,f,v,l⟩,pu,u,hn,hs,hx=>by
  refine NCall.fits (K:=fun r m=>r = .int .i64 (Po.deep (.mk k p f v l):Nat)∧MemFits m [hpB F]) ?_ fun r m' h=>⟨r,_,rfl,h.2,h.1,rfl⟩
  have hu:Po.Row F u l:=hx.l
  have hpu:Pd.Row F pu p.l:=hx.p
  have hok:=hu.ok
  have hpok:=hpu.ok
  have e:=Po.tot_mk k p f v l
  have hll:=Po.length_le l
  have ih:∀ y∈l,∀ pw w,Po.At F y pw w→_:=fun y hy pw w hw=>ko n y pw w (by have:=Po.tot_lt (k:=k) (q:=p) (f:=f) (v:=v) hy;omega) (by have:=Po.tot_lt (k:=k) (q:=p) (f:=f) (v:=v) hy;omega) hw
  have hd:Po.deep (.mk k p f v l)=1+Po.deepL l:=by rw [Po.deep]
  rw [hd]
  refine aA Tryz.func73 rfl (by decide) ?_
  rw [ax]
  repeat' first|(refine sxZ ?_;try clear hK K)|refine sxW ?_ ?_<;>intro _|(intro K hK _;conv=>whnf)
  refine aD (α:=Nat) (fun i=>i≤l.length) (fun i=>[.k,.k,.k,.set (.int .i64 (Po.deepL (l.take i):Nat)),.k,.d,.k,.k,.k,.set (.int .i64 i),.d,.d,.d,.d,.d,.d,.d,.d,.k,.k]) (fun _=>[]) (fun i=>l.length - i) 0 (Nat.zero_le _) ?_ (MemFits.eq rfl) ?_
  ·repeat (first | exact FitsSl.nil | refine FitsSl.any ?_ | refine FitsSl.cons (Fit1.int (by  simp [Po.deepL])) ?_ | refine FitsSl.cons (Fit1.int (by first | rfl | omega)) ?_ | refine FitsSl.cons (Fit1.bool rfl) ?_ | refine FitsSl.cons (Fit1.str rfl) ?_ | refine FitsSl.cons (Fit1.same (by intro h;cases h) (by with_reducible rfl)) ?_ | refine FitsSl.cons Fit1.nil_sl ?_ | refine FitsSl.cons (Fit1.hs rfl) ?_ | refine FitsSl.cons (Fit1.hp rfl rfl) ?_ | refine FitsSl.cons (Fit1.sl rfl) ?_ | refine FitsSl.cons (Fit1.ptr rfl rfl) ?_ | refine FitsSl.cons Fit1.raw ?_)
  (intro i hi;intro K hK;(conv=>whnf);refine hK _ _ ?_;clear hK K)
  by_cases hlt:i<l.length
  ·have hx:l[i]?=some l[i]:=List.getElem?_eq_getElem hlt
   obtain ⟨pA,pcap,A,cap,hA,c0,c1,c2,c3,c4,c5,c6,c7⟩:=hu.get hx
   have hmem:=List.mem_of_getElem? hx
   have hnx:=Po.deepL_take hlt
   have hle:=Po.deepL_take_le (l:=l) (k:=i)
   have hle2:=Po.deepL_take_le (l:=l) (k:=i+1)
   have hAo:=hA.l.ok
   have hAp:=hA.p.ok
   have c:=ih _ hmem _ _ hA
   clear ih
   generalize l[i]=y at *
   generalize Po.deep y=sx at *
   generalize Po.deepL (l.take i)=si at *
   obtain ⟨yk,⟨ypk,ypf,ypv,ypl⟩,yf,yv,yl⟩:=y
   simp only [Po.cs,Po.T.k,Po.T.p,Po.T.f,Po.T.v,Po.T.l,Pd.T.k,Pd.T.f,Pd.T.v,Pd.T.l] at c c0 c1 c2 c3 c4 c5 c6 c7 hAo hAp
   repeat' first|(intro K hK;(with_reducible refine gC ?_);refine cS [0] c ?_)|(refine sxZ ?_;try clear hK K)|refine sxW ?_ ?_<;>intro _|(intro K hK _;conv=>whnf)
   refine aB (i+1) hlt (by omega) ?_ (MemFits.pre 2 rfl)
   repeat (first | exact FitsSl.nil | refine FitsSl.any ?_ | refine FitsSl.cons (Fit1.int (by  omega)) ?_ | refine FitsSl.cons (Fit1.int (by first | rfl | omega)) ?_ | refine FitsSl.cons (Fit1.bool rfl) ?_ | refine FitsSl.cons (Fit1.str rfl) ?_ | refine FitsSl.cons (Fit1.same (by intro h;cases h) (by with_reducible rfl)) ?_ | refine FitsSl.cons Fit1.nil_sl ?_ | refine FitsSl.cons (Fit1.hs rfl) ?_ | refine FitsSl.cons (Fit1.hp rfl rfl) ?_ | refine FitsSl.cons (Fit1.sl rfl) ?_ | refine FitsSl.cons (Fit1.ptr rfl rfl) ?_ | refine FitsSl.cons Fit1.raw ?_)
  ·have hkl:i=l.length:=by omega
   subst hkl
   have hle:=Po.deepL_take_le (l:=l) (k:=l.length)
   rw [List.take_length] at *
   clear ih
   repeat' first|(refine sxZ ?_;try clear hK K)|refine sxW ?_ ?_<;>intro _|(intro K hK _;conv=>whnf)
   all_goals exact ⟨by congr 1;omega,MemFits.pre 1 rfl⟩
theorem fY:∀ (n:Nat) (x:Po.T) (pu u:Value),Po.tot x≤n→Po.tot x≤4611686018427387904→Po.At F x pu u →
  NCall Tryz.prog 17 [.agg (Po.cs x pu u)] [hpB F] fun r m=>r = .int .i64 (Po.size x:Nat)∧m=[hpB F]
 | 0,x,pu,u,hn,_,_=>absurd (Po.tot_pos x) (by omega)
 | n+1,⟨k,p,f,v,l⟩,pu,u,hn,hs,hx=>by
  refine NCall.fits (K:=fun r m=>r = .int .i64 (Po.size (.mk k p f v l):Nat)∧MemFits m [hpB F]) ?_ fun r m' h=>⟨r,_,rfl,h.2,h.1,rfl⟩
  have hu:Po.Row F u l:=hx.l
  have hpu:Pd.Row F pu p.l:=hx.p
  have hok:=hu.ok
  have hpok:=hpu.ok
  have e:=Po.tot_mk k p f v l
  have hll:=Po.length_le l
  have cp:=fZ F _ p pu (Nat.le_refl _) (by omega) hpu
  have ih:∀ y∈l,∀ pw w,Po.At F y pw w→_:=fun y hy pw w hw=>fY n y pw w (by have:=Po.tot_lt (k:=k) (q:=p) (f:=f) (v:=v) hy;omega) (by have:=Po.tot_lt (k:=k) (q:=p) (f:=f) (v:=v) hy;omega) hw
  have hsz:Po.size (.mk k p f v l)=1+(if k=2∨k=3∨k=4 then 0 else Pd.size p)+Po.sizeL l:=by rw [Po.size]
  rw [hsz]
  refine aA Tryz.func17 rfl (by decide) ?_
  rw [ax]
  generalize hz:Pd.size p=z at *
  by_cases hk:k=2∨k=3∨k=4
  ·rw [if_pos hk,Nat.add_zero]
   rcases hk with rfl | rfl | rfl
   iterate 3
    ·repeat' first|(refine sxZ ?_;try clear hK K)|refine sxW ?_ ?_<;>intro _|(intro K hK _;conv=>whnf)
     refine aD (α:=Nat) (fun i=>i≤l.length) (fun i=>[.k,.k,.k,.set (.int .i64 (1+Po.sizeL (l.take i):Nat)),.set (.int .i64 i),.k,.k,.k,.k,.k,.k,.k,.k,.k,.k,.k,.k,.k,.d,.d,.d,.d,.d,.d,.d,.d,.d,.d,.d,.d,.d,.d,.d,.k]) (fun _=>[]) (fun i=>l.length - i) 0 (Nat.zero_le _) ?_ (MemFits.eq rfl) ?_
     ·repeat (first | exact FitsSl.nil | refine FitsSl.any ?_ | refine FitsSl.cons (Fit1.int (by  simp [Po.sizeL])) ?_ | refine FitsSl.cons (Fit1.int (by first | rfl | omega)) ?_ | refine FitsSl.cons (Fit1.bool rfl) ?_ | refine FitsSl.cons (Fit1.str rfl) ?_ | refine FitsSl.cons (Fit1.same (by intro h;cases h) (by with_reducible rfl)) ?_ | refine FitsSl.cons Fit1.nil_sl ?_ | refine FitsSl.cons (Fit1.hs rfl) ?_ | refine FitsSl.cons (Fit1.hp rfl rfl) ?_ | refine FitsSl.cons (Fit1.sl rfl) ?_ | refine FitsSl.cons (Fit1.ptr rfl rfl) ?_ | refine FitsSl.cons Fit1.raw ?_)
     (intro i hi;intro K hK;(conv=>whnf);refine hK _ _ ?_;clear hK K)
     by_cases hlt:i<l.length
     ·have hx:l[i]?=some l[i]:=List.getElem?_eq_getElem hlt
      obtain ⟨pA,pcap,A,cap,hA,c0,c1,c2,c3,c4,c5,c6,c7⟩:=hu.get hx
      have hmem:=List.mem_of_getElem? hx
      have hnx:=Po.sizeL_take hlt
      have hle:=Po.sizeL_take_le (l:=l) (k:=i)
      have hle2:=Po.sizeL_take_le (l:=l) (k:=i+1)
      have hAo:=hA.l.ok
      have hAp:=hA.p.ok
      have c:=ih _ hmem _ _ hA
      clear ih
      generalize l[i]=y at *
      generalize Po.size y=sx at *
      generalize Po.sizeL (l.take i)=si at *
      obtain ⟨yk,⟨ypk,ypf,ypv,ypl⟩,yf,yv,yl⟩:=y
      simp only [Po.cs,Po.T.k,Po.T.p,Po.T.f,Po.T.v,Po.T.l,Pd.T.k,Pd.T.f,Pd.T.v,Pd.T.l] at c c0 c1 c2 c3 c4 c5 c6 c7 hAo hAp
      repeat' first|(intro K hK;(with_reducible refine gC ?_);refine cS [0] c ?_)|(refine sxZ ?_;try clear hK K)|refine sxW ?_ ?_<;>intro _|(intro K hK _;conv=>whnf)
      refine aB (i+1) hlt (by omega) ?_ (MemFits.eq rfl)
      repeat (first | exact FitsSl.nil | refine FitsSl.any ?_ | refine FitsSl.cons (Fit1.int (by  omega)) ?_ | refine FitsSl.cons (Fit1.int (by first | rfl | omega)) ?_ | refine FitsSl.cons (Fit1.bool rfl) ?_ | refine FitsSl.cons (Fit1.str rfl) ?_ | refine FitsSl.cons (Fit1.same (by intro h;cases h) (by with_reducible rfl)) ?_ | refine FitsSl.cons Fit1.nil_sl ?_ | refine FitsSl.cons (Fit1.hs rfl) ?_ | refine FitsSl.cons (Fit1.hp rfl rfl) ?_ | refine FitsSl.cons (Fit1.sl rfl) ?_ | refine FitsSl.cons (Fit1.ptr rfl rfl) ?_ | refine FitsSl.cons Fit1.raw ?_)
     ·have hkl:i=l.length:=by omega
      subst hkl
      have hle:=Po.sizeL_take_le (l:=l) (k:=l.length)
      rw [List.take_length] at *
      clear ih
      repeat' first|(refine sxZ ?_;try clear hK K)|refine sxW ?_ ?_<;>intro _|(intro K hK _;conv=>whnf)
      all_goals exact ⟨rfl,MemFits.pre 1 rfl⟩
  ·rw [if_neg hk]
   obtain ⟨pk,pf,pv,pl⟩:=p
   simp only [ab,Pd.T.k,Pd.T.f,Pd.T.v,Pd.T.l] at *
   by_cases hk2:k<2
   ·repeat' first|(intro K hK;(with_reducible refine gC ?_);refine cS [0] cp ?_)|(refine sxZ ?_;try clear hK K)|refine sxW ?_ ?_<;>intro _|(intro K hK _;conv=>whnf)
    refine aD (α:=Nat) (fun i=>i≤l.length) (fun i=>[.k,.k,.k,.set (.int .i64 (1+z+Po.sizeL (l.take i):Nat)),.set (.int .i64 i),.k,.k,.k,.k,.k,.k,.k,.k,.k,.k,.k,.k,.k,.d,.d,.d,.d,.d,.d,.d,.d,.d,.d,.d,.d,.d,.d,.d,.k]) (fun _=>[]) (fun i=>l.length - i) 0 (Nat.zero_le _) ?_ (MemFits.eq rfl) ?_
    ·repeat (first | exact FitsSl.nil | refine FitsSl.any ?_ | refine FitsSl.cons (Fit1.int (by  simp [Po.sizeL])) ?_ | refine FitsSl.cons (Fit1.int (by first | rfl | omega)) ?_ | refine FitsSl.cons (Fit1.bool rfl) ?_ | refine FitsSl.cons (Fit1.str rfl) ?_ | refine FitsSl.cons (Fit1.same (by intro h;cases h) (by with_reducible rfl)) ?_ | refine FitsSl.cons Fit1.nil_sl ?_ | refine FitsSl.cons (Fit1.hs rfl) ?_ | refine FitsSl.cons (Fit1.hp rfl rfl) ?_ | refine FitsSl.cons (Fit1.sl rfl) ?_ | refine FitsSl.cons (Fit1.ptr rfl rfl) ?_ | refine FitsSl.cons Fit1.raw ?_)
    (intro i hi;intro K hK;(conv=>whnf);refine hK _ _ ?_;clear hK K)
    by_cases hlt:i<l.length
    ·have hx:l[i]?=some l[i]:=List.getElem?_eq_getElem hlt
     obtain ⟨pA,pcap,A,cap,hA,c0,c1,c2,c3,c4,c5,c6,c7⟩:=hu.get hx
     have hmem:=List.mem_of_getElem? hx
     have hnx:=Po.sizeL_take hlt
     have hle:=Po.sizeL_take_le (l:=l) (k:=i)
     have hle2:=Po.sizeL_take_le (l:=l) (k:=i+1)
     have hAo:=hA.l.ok
     have hAp:=hA.p.ok
     have c:=ih _ hmem _ _ hA
     clear ih
     generalize l[i]=y at *
     generalize Po.size y=sx at *
     generalize Po.sizeL (l.take i)=si at *
     obtain ⟨yk,⟨ypk,ypf,ypv,ypl⟩,yf,yv,yl⟩:=y
     simp only [Po.cs,Po.T.k,Po.T.p,Po.T.f,Po.T.v,Po.T.l,Pd.T.k,Pd.T.f,Pd.T.v,Pd.T.l] at c c0 c1 c2 c3 c4 c5 c6 c7 hAo hAp
     repeat' first|(intro K hK;(with_reducible refine gC ?_);refine cS [0] c ?_)|(refine sxZ ?_;try clear hK K)|refine sxW ?_ ?_<;>intro _|(intro K hK _;conv=>whnf)
     refine aB (i+1) hlt (by omega) ?_ (MemFits.eq rfl)
     repeat (first | exact FitsSl.nil | refine FitsSl.any ?_ | refine FitsSl.cons (Fit1.int (by  omega)) ?_ | refine FitsSl.cons (Fit1.int (by first | rfl | omega)) ?_ | refine FitsSl.cons (Fit1.bool rfl) ?_ | refine FitsSl.cons (Fit1.str rfl) ?_ | refine FitsSl.cons (Fit1.same (by intro h;cases h) (by with_reducible rfl)) ?_ | refine FitsSl.cons Fit1.nil_sl ?_ | refine FitsSl.cons (Fit1.hs rfl) ?_ | refine FitsSl.cons (Fit1.hp rfl rfl) ?_ | refine FitsSl.cons (Fit1.sl rfl) ?_ | refine FitsSl.cons (Fit1.ptr rfl rfl) ?_ | refine FitsSl.cons Fit1.raw ?_)
    ·have hkl:i=l.length:=by omega
     subst hkl
     have hle:=Po.sizeL_take_le (l:=l) (k:=l.length)
     rw [List.take_length] at *
     clear ih
     repeat' first|(refine sxZ ?_;try clear hK K)|refine sxW ?_ ?_<;>intro _|(intro K hK _;conv=>whnf)
     all_goals exact ⟨rfl,MemFits.pre 1 rfl⟩
   ·have hk4:4<k:=by omega
    repeat' first|(intro K hK;(with_reducible refine gC ?_);refine cS [0] cp ?_)|(refine sxZ ?_;try clear hK K)|refine sxW ?_ ?_<;>intro _|(intro K hK _;conv=>whnf)
    refine aD (α:=Nat) (fun i=>i≤l.length) (fun i=>[.k,.k,.k,.set (.int .i64 (1+z+Po.sizeL (l.take i):Nat)),.set (.int .i64 i),.k,.k,.k,.k,.k,.k,.k,.k,.k,.k,.k,.k,.k,.d,.d,.d,.d,.d,.d,.d,.d,.d,.d,.d,.d,.d,.d,.d,.k]) (fun _=>[]) (fun i=>l.length - i) 0 (Nat.zero_le _) ?_ (MemFits.eq rfl) ?_
    ·repeat (first | exact FitsSl.nil | refine FitsSl.any ?_ | refine FitsSl.cons (Fit1.int (by  simp [Po.sizeL])) ?_ | refine FitsSl.cons (Fit1.int (by first | rfl | omega)) ?_ | refine FitsSl.cons (Fit1.bool rfl) ?_ | refine FitsSl.cons (Fit1.str rfl) ?_ | refine FitsSl.cons (Fit1.same (by intro h;cases h) (by with_reducible rfl)) ?_ | refine FitsSl.cons Fit1.nil_sl ?_ | refine FitsSl.cons (Fit1.hs rfl) ?_ | refine FitsSl.cons (Fit1.hp rfl rfl) ?_ | refine FitsSl.cons (Fit1.sl rfl) ?_ | refine FitsSl.cons (Fit1.ptr rfl rfl) ?_ | refine FitsSl.cons Fit1.raw ?_)
    (intro i hi;intro K hK;(conv=>whnf);refine hK _ _ ?_;clear hK K)
    by_cases hlt:i<l.length
    ·have hx:l[i]?=some l[i]:=List.getElem?_eq_getElem hlt
     obtain ⟨pA,pcap,A,cap,hA,c0,c1,c2,c3,c4,c5,c6,c7⟩:=hu.get hx
     have hmem:=List.mem_of_getElem? hx
     have hnx:=Po.sizeL_take hlt
     have hle:=Po.sizeL_take_le (l:=l) (k:=i)
     have hle2:=Po.sizeL_take_le (l:=l) (k:=i+1)
     have hAo:=hA.l.ok
     have hAp:=hA.p.ok
     have c:=ih _ hmem _ _ hA
     clear ih
     generalize l[i]=y at *
     generalize Po.size y=sx at *
     generalize Po.sizeL (l.take i)=si at *
     obtain ⟨yk,⟨ypk,ypf,ypv,ypl⟩,yf,yv,yl⟩:=y
     simp only [Po.cs,Po.T.k,Po.T.p,Po.T.f,Po.T.v,Po.T.l,Pd.T.k,Pd.T.f,Pd.T.v,Pd.T.l] at c c0 c1 c2 c3 c4 c5 c6 c7 hAo hAp
     repeat' first|(intro K hK;(with_reducible refine gC ?_);refine cS [0] c ?_)|(refine sxZ ?_;try clear hK K)|refine sxW ?_ ?_<;>intro _|(intro K hK _;conv=>whnf)
     refine aB (i+1) hlt (by omega) ?_ (MemFits.eq rfl)
     repeat (first | exact FitsSl.nil | refine FitsSl.any ?_ | refine FitsSl.cons (Fit1.int (by  omega)) ?_ | refine FitsSl.cons (Fit1.int (by first | rfl | omega)) ?_ | refine FitsSl.cons (Fit1.bool rfl) ?_ | refine FitsSl.cons (Fit1.str rfl) ?_ | refine FitsSl.cons (Fit1.same (by intro h;cases h) (by with_reducible rfl)) ?_ | refine FitsSl.cons Fit1.nil_sl ?_ | refine FitsSl.cons (Fit1.hs rfl) ?_ | refine FitsSl.cons (Fit1.hp rfl rfl) ?_ | refine FitsSl.cons (Fit1.sl rfl) ?_ | refine FitsSl.cons (Fit1.ptr rfl rfl) ?_ | refine FitsSl.cons Fit1.raw ?_)
    ·have hkl:i=l.length:=by omega
     subst hkl
     have hle:=Po.sizeL_take_le (l:=l) (k:=l.length)
     rw [List.take_length] at *
     clear ih
     repeat' first|(refine sxZ ?_;try clear hK K)|refine sxW ?_ ?_<;>intro _|(intro K hK _;conv=>whnf)
     all_goals exact ⟨rfl,MemFits.pre 1 rfl⟩
theorem jo:∀ (n:Nat) (x:Po.T) (pu u:Value),Po.tot x≤n→Po.tot x≤4611686018427387904→Po.At F x pu u →
  NCall Tryz.prog 75 [.agg (Po.cs x pu u)] [hpB F] fun r m=>r = .int .i64 (Po.wide x:Nat)∧m=[hpB F]
 | 0,x,pu,u,hn,_,_=>absurd (Po.tot_pos x) (by omega)
 | n+1,⟨k,p,f,v,l⟩,pu,u,hn,hs,hx=>by
  refine NCall.fits (K:=fun r m=>r = .int .i64 (Po.wide (.mk k p f v l):Nat)∧MemFits m [hpB F]) ?_ fun r m' h=>⟨r,_,rfl,h.2,h.1,rfl⟩
  have hu:Po.Row F u l:=hx.l
  have hpu:Pd.Row F pu p.l:=hx.p
  have hok:=hu.ok
  have hpok:=hpu.ok
  have e:=Po.tot_mk k p f v l
  have hll:=Po.length_le l
  have ih:∀ y∈l,∀ pw w,Po.At F y pw w→_:=fun y hy pw w hw=>jo n y pw w (by have:=Po.tot_lt (k:=k) (q:=p) (f:=f) (v:=v) hy;omega) (by have:=Po.tot_lt (k:=k) (q:=p) (f:=f) (v:=v) hy;omega) hw
  refine aA Tryz.func75 rfl (by decide) ?_
  rw [ax]
  by_cases h3:k=3
  ·subst h3
   rw [show Po.wide (.mk 3 p f v l)=Po.wideS 1 l by rw [Po.wide];rfl]
   repeat' first|(refine sxZ ?_;try clear hK K)|refine sxW ?_ ?_<;>intro _|(intro K hK _;conv=>whnf)
   refine aD (α:=Nat) (fun i=>i≤l.length) (fun i=>[.k,.k,.k,.set (.int .i64 (Po.wideS 1 (l.take i):Nat)),.k,.d,.k,.k,.k,.k,.k,.k,.k,.k,.k,.k,.k,.set (.int .i64 i),.d,.d,.d,.d,.d,.d,.d,.d,.d,.k,.k,.k,.k,.k,.k,.k,.k,.k,.k,.k,.k,.k,.k,.k,.k,.k,.k,.k,.k,.k,.k,.k,.k,.k,.k,.k,.k,.k,.k]) (fun _=>[]) (fun i=>l.length - i) 0 (Nat.zero_le _) ?_ (MemFits.eq rfl) ?_
   ·repeat (first | exact FitsSl.nil | refine FitsSl.any ?_ | refine FitsSl.cons (Fit1.int (by  simp [Po.wideS])) ?_ | refine FitsSl.cons (Fit1.int (by first | rfl | omega)) ?_ | refine FitsSl.cons (Fit1.bool rfl) ?_ | refine FitsSl.cons (Fit1.str rfl) ?_ | refine FitsSl.cons (Fit1.same (by intro h;cases h) (by with_reducible rfl)) ?_ | refine FitsSl.cons Fit1.nil_sl ?_ | refine FitsSl.cons (Fit1.hs rfl) ?_ | refine FitsSl.cons (Fit1.hp rfl rfl) ?_ | refine FitsSl.cons (Fit1.sl rfl) ?_ | refine FitsSl.cons (Fit1.ptr rfl rfl) ?_ | refine FitsSl.cons Fit1.raw ?_)
   (intro i hi;intro K hK;(conv=>whnf);refine hK _ _ ?_;clear hK K)
   by_cases hlt:i<l.length
   ·have hx:l[i]?=some l[i]:=List.getElem?_eq_getElem hlt
    obtain ⟨pA,pcap,A,cap,hA,c0,c1,c2,c3,c4,c5,c6,c7⟩:=hu.get hx
    have hmem:=List.mem_of_getElem? hx
    have hnx:=Po.wideS_take 1 hlt
    have hw:=Po.wide_le l[i]
    have hle:=Po.wideS_le (l.take i) 1 (by decide)
    have hmul:Po.wideS 1 (l.take i)*Po.wide l[i]≤1000000:=Nat.le_trans (Nat.mul_le_mul hle hw) (by decide)
    have hAo:=hA.l.ok
    have hAp:=hA.p.ok
    have c:=ih _ hmem _ _ hA
    clear ih
    generalize l[i]=y at *
    generalize Po.wide y=sx at *
    generalize Po.wideS 1 (l.take i)=si at *
    have hcast:((si*sx:Nat):Int)=(si:Int)*sx:=Int.natCast_mul _ _
    generalize hpr:(si:Int)*sx=pr at *
    generalize hpn:si*sx=pn at *
    obtain ⟨yk,⟨ypk,ypf,ypv,ypl⟩,yf,yv,yl⟩:=y
    simp only [Po.cs,Po.T.k,Po.T.p,Po.T.f,Po.T.v,Po.T.l,Pd.T.k,Pd.T.f,Pd.T.v,Pd.T.l] at c c0 c1 c2 c3 c4 c5 c6 c7 hAo hAp
    repeat' first|(intro K hK;(with_reducible refine gC ?_);refine cS [0] c ?_)|(refine sxZ ?_;try clear hK K)|refine sxW ?_ ?_<;>intro _|(intro K hK _;conv=>whnf)
    refine aB (i+1) hlt (by omega) ?_ (MemFits.pre 2 rfl)
    repeat (first | exact FitsSl.nil | refine FitsSl.any ?_ | refine FitsSl.cons (Fit1.int (by  (rw [hnx];omega))) ?_ | refine FitsSl.cons (Fit1.int (by first | rfl | omega)) ?_ | refine FitsSl.cons (Fit1.bool rfl) ?_ | refine FitsSl.cons (Fit1.str rfl) ?_ | refine FitsSl.cons (Fit1.same (by intro h;cases h) (by with_reducible rfl)) ?_ | refine FitsSl.cons Fit1.nil_sl ?_ | refine FitsSl.cons (Fit1.hs rfl) ?_ | refine FitsSl.cons (Fit1.hp rfl rfl) ?_ | refine FitsSl.cons (Fit1.sl rfl) ?_ | refine FitsSl.cons (Fit1.ptr rfl rfl) ?_ | refine FitsSl.cons Fit1.raw ?_)
   ·have hkl:i=l.length:=by omega
    subst hkl
    rw [List.take_length] at *
    clear ih
    repeat' first|(refine sxZ ?_;try clear hK K)|refine sxW ?_ ?_<;>intro _|(intro K hK _;conv=>whnf)
    all_goals exact ⟨rfl,MemFits.pre 1 rfl⟩
  by_cases h4:k=4
  ·subst h4
   rw [show Po.wide (.mk 4 p f v l)=Po.wideU 0 l by rw [Po.wide];rfl]
   repeat' first|(refine sxZ ?_;try clear hK K)|refine sxW ?_ ?_<;>intro _|(intro K hK _;conv=>whnf)
   refine aD (α:=Nat) (fun i=>i≤l.length) (fun i=>[.k,.k,.k,.set (.int .i64 (Po.wideU 0 (l.take i):Nat)),.k,.k,.k,.d,.k,.k,.k,.k,.k,.k,.k,.k,.k,.k,.k,.k,.k,.k,.k,.k,.k,.k,.k,.k,.k,.k,.k,.k,.set (.int .i64 i),.d,.d,.d,.d,.d,.d,.d,.d,.d,.k,.k,.k,.k,.k,.k,.k,.k,.k,.k,.k,.k,.k,.k,.k]) (fun _=>[]) (fun i=>l.length - i) 0 (Nat.zero_le _) ?_ (MemFits.eq rfl) ?_
   ·repeat (first | exact FitsSl.nil | refine FitsSl.any ?_ | refine FitsSl.cons (Fit1.int (by  simp [Po.wideU])) ?_ | refine FitsSl.cons (Fit1.int (by first | rfl | omega)) ?_ | refine FitsSl.cons (Fit1.bool rfl) ?_ | refine FitsSl.cons (Fit1.str rfl) ?_ | refine FitsSl.cons (Fit1.same (by intro h;cases h) (by with_reducible rfl)) ?_ | refine FitsSl.cons Fit1.nil_sl ?_ | refine FitsSl.cons (Fit1.hs rfl) ?_ | refine FitsSl.cons (Fit1.hp rfl rfl) ?_ | refine FitsSl.cons (Fit1.sl rfl) ?_ | refine FitsSl.cons (Fit1.ptr rfl rfl) ?_ | refine FitsSl.cons Fit1.raw ?_)
   (intro i hi;intro K hK;(conv=>whnf);refine hK _ _ ?_;clear hK K)
   by_cases hlt:i<l.length
   ·have hx:l[i]?=some l[i]:=List.getElem?_eq_getElem hlt
    obtain ⟨pA,pcap,A,cap,hA,c0,c1,c2,c3,c4,c5,c6,c7⟩:=hu.get hx
    have hmem:=List.mem_of_getElem? hx
    have hnx:=Po.wideU_take 0 hlt
    have hw:=Po.wide_le l[i]
    have hle:=Po.wideU_le (l.take i) 0 (by decide)
    have hAo:=hA.l.ok
    have hAp:=hA.p.ok
    have c:=ih _ hmem _ _ hA
    clear ih
    generalize l[i]=y at *
    generalize Po.wide y=sx at *
    generalize Po.wideU 0 (l.take i)=si at *
    obtain ⟨yk,⟨ypk,ypf,ypv,ypl⟩,yf,yv,yl⟩:=y
    simp only [Po.cs,Po.T.k,Po.T.p,Po.T.f,Po.T.v,Po.T.l,Pd.T.k,Pd.T.f,Pd.T.v,Pd.T.l] at c c0 c1 c2 c3 c4 c5 c6 c7 hAo hAp
    repeat' first|(intro K hK;(with_reducible refine gC ?_);refine cS [0] c ?_)|(refine sxZ ?_;try clear hK K)|refine sxW ?_ ?_<;>intro _|(intro K hK _;conv=>whnf)
    refine aB (i+1) hlt (by omega) ?_ (MemFits.pre 2 rfl)
    repeat (first | exact FitsSl.nil | refine FitsSl.any ?_ | refine FitsSl.cons (Fit1.int (by  (rw [hnx];omega))) ?_ | refine FitsSl.cons (Fit1.int (by first | rfl | omega)) ?_ | refine FitsSl.cons (Fit1.bool rfl) ?_ | refine FitsSl.cons (Fit1.str rfl) ?_ | refine FitsSl.cons (Fit1.same (by intro h;cases h) (by with_reducible rfl)) ?_ | refine FitsSl.cons Fit1.nil_sl ?_ | refine FitsSl.cons (Fit1.hs rfl) ?_ | refine FitsSl.cons (Fit1.hp rfl rfl) ?_ | refine FitsSl.cons (Fit1.sl rfl) ?_ | refine FitsSl.cons (Fit1.ptr rfl rfl) ?_ | refine FitsSl.cons Fit1.raw ?_)
   ·have hkl:i=l.length:=by omega
    subst hkl
    rw [List.take_length] at *
    clear ih
    repeat' first|(refine sxZ ?_;try clear hK K)|refine sxW ?_ ?_<;>intro _|(intro K hK _;conv=>whnf)
    all_goals exact ⟨rfl,MemFits.pre 1 rfl⟩
  by_cases h5:k=5
  ·subst h5
   rw [show Po.wide (.mk 5 p f v l)=Po.wideI 0 l by rw [Po.wide];rfl]
   repeat' first|(refine sxZ ?_;try clear hK K)|refine sxW ?_ ?_<;>intro _|(intro K hK _;conv=>whnf)
   refine aD (α:=Nat) (fun i=>i≤l.length) (fun i=>[.k,.k,.k,.set (.int .i64 (Po.wideI 0 (l.take i):Nat)),.k,.k,.k,.k,.k,.d,.k,.k,.k,.k,.k,.k,.k,.k,.k,.k,.k,.k,.k,.k,.k,.k,.k,.k,.k,.k,.k,.k,.k,.k,.k,.k,.k,.k,.k,.k,.k,.k,.k,.k,.k,.k,.k,.set (.int .i64 i),.d,.d,.d,.d,.d,.d,.d,.d,.k]) (fun _=>[]) (fun i=>l.length - i) 0 (Nat.zero_le _) ?_ (MemFits.eq rfl) ?_
   ·repeat (first | exact FitsSl.nil | refine FitsSl.any ?_ | refine FitsSl.cons (Fit1.int (by  simp [Po.wideI])) ?_ | refine FitsSl.cons (Fit1.int (by first | rfl | omega)) ?_ | refine FitsSl.cons (Fit1.bool rfl) ?_ | refine FitsSl.cons (Fit1.str rfl) ?_ | refine FitsSl.cons (Fit1.same (by intro h;cases h) (by with_reducible rfl)) ?_ | refine FitsSl.cons Fit1.nil_sl ?_ | refine FitsSl.cons (Fit1.hs rfl) ?_ | refine FitsSl.cons (Fit1.hp rfl rfl) ?_ | refine FitsSl.cons (Fit1.sl rfl) ?_ | refine FitsSl.cons (Fit1.ptr rfl rfl) ?_ | refine FitsSl.cons Fit1.raw ?_)
   (intro i hi;intro K hK;(conv=>whnf);refine hK _ _ ?_;clear hK K)
   by_cases hlt:i<l.length
   ·have hx:l[i]?=some l[i]:=List.getElem?_eq_getElem hlt
    obtain ⟨pA,pcap,A,cap,hA,c0,c1,c2,c3,c4,c5,c6,c7⟩:=hu.get hx
    have hmem:=List.mem_of_getElem? hx
    have hnx:=Po.wideI_take 0 hlt
    have hw:=Po.wide_le l[i]
    have hle:=Po.wideI_le (l.take i) 0 (by decide)
    have hAo:=hA.l.ok
    have hAp:=hA.p.ok
    have c:=ih _ hmem _ _ hA
    clear ih
    generalize l[i]=y at *
    generalize Po.wide y=sx at *
    generalize Po.wideI 0 (l.take i)=si at *
    obtain ⟨yk,⟨ypk,ypf,ypv,ypl⟩,yf,yv,yl⟩:=y
    simp only [Po.cs,Po.T.k,Po.T.p,Po.T.f,Po.T.v,Po.T.l,Pd.T.k,Pd.T.f,Pd.T.v,Pd.T.l] at c c0 c1 c2 c3 c4 c5 c6 c7 hAo hAp
    repeat' first|(intro K hK;(with_reducible refine gC ?_);refine cS [0] c ?_)|(refine sxZ ?_;try clear hK K)|refine sxW ?_ ?_<;>intro _|(intro K hK _;conv=>whnf)
    refine aB (i+1) hlt (by omega) ?_ (MemFits.pre 2 rfl)
    repeat (first | exact FitsSl.nil | refine FitsSl.any ?_ | refine FitsSl.cons (Fit1.int (by  (rw [hnx];omega))) ?_ | refine FitsSl.cons (Fit1.int (by first | rfl | omega)) ?_ | refine FitsSl.cons (Fit1.bool rfl) ?_ | refine FitsSl.cons (Fit1.str rfl) ?_ | refine FitsSl.cons (Fit1.same (by intro h;cases h) (by with_reducible rfl)) ?_ | refine FitsSl.cons Fit1.nil_sl ?_ | refine FitsSl.cons (Fit1.hs rfl) ?_ | refine FitsSl.cons (Fit1.hp rfl rfl) ?_ | refine FitsSl.cons (Fit1.sl rfl) ?_ | refine FitsSl.cons (Fit1.ptr rfl rfl) ?_ | refine FitsSl.cons Fit1.raw ?_)
   ·have hkl:i=l.length:=by omega
    subst hkl
    rw [List.take_length] at *
    clear ih
    repeat' first|(refine sxZ ?_;try clear hK K)|refine sxW ?_ ?_<;>intro _|(intro K hK _;conv=>whnf)
    all_goals exact ⟨rfl,MemFits.pre 1 rfl⟩
  rw [show Po.wide (.mk k p f v l)=1 by rw [Po.wide,if_neg h3,if_neg h4,if_neg h5]]
  clear ih
  repeat' first|(refine sxZ ?_;try clear hK K)|refine sxW ?_ ?_<;>intro _|(intro K hK _;conv=>whnf)
  all_goals first
   | exact ⟨rfl,MemFits.pre 1 rfl⟩
   | (exfalso;omega)
omit F in
end
end Go.Proofs.YtmehinfgdcmmjaaGreat
