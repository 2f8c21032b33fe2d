import Derived.Test.YtmehinfgdcmmjaaGreatJ16
import Derived.Test.YtmehinfgdcmmjaaGreatJ3
import Derived.Test.YtmehinfgdcmmjaaGreatJ11
namespace Go.Proofs.YtmehinfgdcmmjaaGreat
open Go.Sx
set_option maxRecDepth 20000
set_option linter.unusedSimpArgs false
set_option linter.unusedVariables false
set_option maxHeartbeats 4000000
theorem dZ (f:Int):NCall Tryz.prog 18 [.int .i64 f] [] fun r _=>r = .int .i64 (Po.ptop f):=by
 refine aA Tryz.func18 rfl (by decide) ?_
 unfold Po.ptop
 by_cases h2:f=2
 ·subst h2
  repeat' first|(refine sxZ ?_;try clear hK K)|refine sxW ?_ ?_<;>intro _|(intro K hK _;conv=>whnf)
  all_goals rfl
 rw [if_neg h2]
 by_cases h3:f=0∨f=1∨f=3
 ·rw [if_pos h3]
  rcases h3 with rfl | rfl | rfl
  all_goals (repeat' first|(refine sxZ ?_;try clear hK K)|refine sxW ?_ ?_<;>intro _|(intro K hK _;conv=>whnf))
  all_goals rfl
 ·rw [if_neg h3]
  repeat' first|(refine sxZ ?_;try clear hK K)|refine sxW ?_ ?_<;>intro _|(intro K hK _;conv=>whnf)
  all_goals first | rfl | (exfalso;omega)
theorem j6 (s:Po.S) (f v:Int):NCall Tryz.prog 29 [.agg [.int .i64 s.p0,.int .i64 s.p1,.int .i64 s.p2,.int .i64 s.p3],.int .i64 f,.int .i64 v] [] fun r _=>r = .agg [.int .i64 (Po.withS f v s).p0,.int .i64 (Po.withS f v s).p1,.int .i64 (Po.withS f v s).p2,.int .i64 (Po.withS f v s).p3]:=by
 have ht:=dZ f
 refine aA Tryz.func29 rfl (by decide) ?_
 have hw:Po.withS f v s=if (0≤f∧f<4)∧0≤v∧v≤Po.ptop f then (if f=0 then { s with p0:=v } else if f=1 then { s with p1:=v } else if f=2 then { s with p2:=v } else { s with p3:=v }) else s:=rfl
 generalize Po.withS f v s=E at *
 generalize Po.ptop f=tp at *
 by_cases h4:0≤f∧f<4
 ·obtain ⟨a0,a,b,c,d⟩:=s
  by_cases hv:0≤v∧v≤tp
  ·rw [if_pos ⟨h4,hv⟩] at hw
   have h4':f=0∨f=1∨f=2∨f=3:=by omega
   rcases h4' with rfl | rfl | rfl | rfl
   all_goals
    subst hw
    simp only
    repeat' first|(intro K hK;(with_reducible refine gC ?_);refine cP ht ?_)|(refine sxZ ?_;try clear hK K)|refine sxW ?_ ?_<;>intro _|(intro K hK _;conv=>whnf)
    all_goals rfl
  ·rw [if_neg (fun h=>hv h.2)] at hw
   subst hw
   simp only
   repeat' first|(intro K hK;(with_reducible refine gC ?_);refine cP ht ?_)|(refine sxZ ?_;try clear hK K)|refine sxW ?_ ?_<;>intro _|(intro K hK _;conv=>whnf)
   all_goals first | rfl | (exfalso;omega)
 ·rw [if_neg (fun h=>h4 h.1)] at hw
  rw [hw]
  clear hw
  obtain ⟨a0,a,b,c,d⟩:=s
  simp only
  repeat' first|(intro K hK;(with_reducible refine gC ?_);refine cP ht ?_)|(refine sxZ ?_;try clear hK K)|refine sxW ?_ ?_<;>intro _|(intro K hK _;conv=>whnf)
  all_goals first | rfl | (exfalso;omega)
theorem oC (x y:Po.S):NCall Tryz.prog 24 [.agg x.av,.agg y.av] [] fun r _=>r = .bool (decide (Po.ahead x y)):=by
 have hd:∀ b:Prop,∀ _:Decidable b,(Po.ahead x y↔b)→AV.bool (decide b) = .bool (decide (Po.ahead x y)):=fun b _ h=>by congr 1;exact decide_eq_decide.2 h.symm
 have hF:¬ Po.ahead x y→AV.bool false = .bool (decide (Po.ahead x y)):=fun h=>by rw [decide_eq_false h]
 unfold Po.ahead at *
 obtain ⟨a0,a1,a2,a3,a4⟩:=x
 obtain ⟨b0,b1,b2,b3,b4⟩:=y
 dsimp only [Po.S.av] at *
 refine aA Tryz.func24 rfl (by decide) ?_
 (repeat' (first|(refine sxA ?_;(first|clear hK K|skip);(first|clear hA hB A B|skip))|((with_reducible refine gNO ?_);(first|(refine z36 rfl (by kernel_rfl) ?_;intro K hK;conv=>whnf)|(refine z37 rfl (by kernel_rfl) ?_;intro K hK;conv=>whnf)|refine z38 rfl (by kernel_rfl) ?_|refine z39 rfl rfl (by kernel_rfl) (by intro h;cases h) ?_))|((with_reducible refine gNE ?_);(first|(refine z40 ?_ ?_;(intro K hK;conv=>whnf))|(refine z41 ?_ ?_;(intro K hK;conv=>whnf))|exact z42))|((with_reducible refine gX ?_);(first|refine z34 (by kernel_rfl) (by decide +kernel) ?_|refine z35 (by kernel_rfl) _ rfl ?_|(with_reducible refine bI 6 ?_)))|(refine bQ ?_;intro K hK;conv=>whnf)|(refine bF ?_;intro A B hA hB;(conv=>whnf);((with_reducible refine NIf.dec (fun _=>?_) (fun _=>?_))<;>(conv=>whnf)))|(refine bF ?_;intro A B hA hB;conv=>whnf)|((with_reducible first|refine NIf.dec (fun _=>?_) (fun _=>?_)|refine NIf.both (fun _=>?_) (fun _=>?_))<;>(conv=>whnf))|((intro _;skip)<;>(conv=>whnf))))
 all_goals first
  | (refine hd _ _ ?_;omega)
  | (refine hF ?_;omega)
  | (exfalso;omega)
namespace Po
structure Putting (s:S) (l out:List S) (dn:Bool) (i:Nat):Prop where
 le:i≤l.length
 yes:dn=true→ins s l=out++l.drop i
 no:dn=false→out=l.take i∧ins s l=l.take i++ins s (l.drop i)
 len:out.length≤i+1
theorem Putting.zero (s:S) (l:List S):Putting s l [] false 0:=⟨Nat.zero_le _,(fun h=>by cases h),fun _=>⟨rfl,rfl⟩,by simp⟩
theorem Putting.copy {s:S} {l out:List S} {i:Nat} {x:S} (h:Putting s l out true i) (hx:l[i]?=some x):Putting s l (out++[x]) true (i+1):=by
 obtain ⟨hlt,rfl⟩:=List.getElem?_eq_some_iff.1 hx
 refine ⟨hlt,fun _=>?_,(fun h=>by cases h),by have:=h.len;simp;omega⟩
 rw [h.yes rfl,List.drop_eq_getElem_cons hlt,List.append_assoc];rfl
theorem Putting.found {s:S} {l out:List S} {i:Nat} (h:Putting s l out false i) (hx:l[i]?=some s):Putting s l (out++[s]) true (i+1):=by
 obtain ⟨hlt,e⟩:=List.getElem?_eq_some_iff.1 hx
 obtain ⟨h1,h2⟩:=h.no rfl
 refine ⟨hlt,fun _=>?_,(fun h=>by cases h),by have:=h.len;simp;omega⟩
 rw [h2,h1,List.drop_eq_getElem_cons hlt,e,ins,if_pos rfl,List.append_assoc];rfl
theorem Putting.here {s:S} {l out:List S} {i:Nat} {x:S} (h:Putting s l out false i) (hx:l[i]?=some x) (hne:x≠s) (ha:ahead s x):Putting s l (out++[s]++[x]) true (i+1):=by
 obtain ⟨hlt,rfl⟩:=List.getElem?_eq_some_iff.1 hx
 obtain ⟨h1,h2⟩:=h.no rfl
 have hl:out.length=i:=by rw [h1,List.length_take];omega
 refine ⟨hlt,fun _=>?_,(fun h=>by cases h),by simp;omega⟩
 rw [h2,h1,List.drop_eq_getElem_cons hlt,ins,if_neg hne,if_pos ha];simp
theorem Putting.past {s:S} {l out:List S} {i:Nat} {x:S} (h:Putting s l out false i) (hx:l[i]?=some x) (hne:x≠s) (ha:¬ ahead s x):Putting s l (out++[x]) false (i+1):=by
 obtain ⟨hlt,rfl⟩:=List.getElem?_eq_some_iff.1 hx
 obtain ⟨h1,h2⟩:=h.no rfl
 refine ⟨hlt,(fun h=>by cases h),fun _=>?_,by have:=h.len;simp;omega⟩
 have e:l.take (i+1)=l.take i++[l[i]]:=by rw [List.take_add_one,List.getElem?_eq_getElem hlt];rfl
 refine ⟨by rw [h1,e],?_⟩
 rw [h2,e,List.drop_eq_getElem_cons hlt,ins,if_neg hne,if_neg ha,List.append_assoc];rfl
theorem Putting.end_ {s:S} {l out:List S} {dn:Bool} (h:Putting s l out dn l.length):ins s l=if dn then out else out++[s]:=by
 cases dn
 ·obtain ⟨h1,h2⟩:=h.no rfl
  rw [h2,h1];simp [ins]
 ·rw [h.yes rfl];simp
end Po
theorem nP (F:Heap) (v:Value) (l:List Po.S) (s:Po.S) (hn:l.length≤1000000) (hv:Po.SRow F v l) :
  NCall Tryz.prog 10 [.hs v l.length,.agg s.av] [hpB F] fun r m=>∃ w:Value,r.den=aw w∧MemFits m [hpB F,⟨addrOf w,Po.savs (Po.ins s l),.row w 48 5 (Po.ins s l).length⟩]:=by
 have hok:=hv.ok
 obtain ⟨s0,s1,s2,s3,s4⟩:=s
 have hen:=fun out dn (h:Po.Putting ⟨s0,s1,s2,s3,s4⟩ l out dn l.length)=>h.end_
 generalize hI:Po.ins ⟨s0,s1,s2,s3,s4⟩ l=I at *
 simp only [Po.S.av]
 refine aA Tryz.func10 rfl (by decide) ?_
 repeat' first|(refine sxZ ?_;try clear hK K)|refine sxW ?_ ?_<;>intro _|(intro K hK _;conv=>whnf)
 refine aD (α:=Value × List Po.S × Bool × Nat) (fun (w,out,dn,i)=>Po.Putting ⟨s0,s1,s2,s3,s4⟩ l out dn i) (fun (w,out,dn,i)=>[.k,.k,.k,.k,.k,.set (.sl 2 w out.length),.set (.bool dn),.set (.int .i64 i),.d,.d,.d,.d,.d,.d,.d,.d,.d,.d,.d,.d,.d,.d,.d,.d,.d,.d,.d,.d,.d,.d,.d,.d,.d,.d,.d,.d,.d,.d,.d,.d,.d,.k,.k,.k,.k,.k,.k,.k]) (fun (w,out,dn,i)=>[.k,.k,.set ⟨addrOf w,Po.savs out,.row w 48 5 out.length⟩]) (fun (w,out,dn,i)=>l.length - i) (.slice none 0 0,[],false,0) (Po.Putting.zero _ _) ?_ ((MemFits.nilRow _ 48 5).trans (MemFits.congr rfl)) ?_
 ·exact aC
 (intro ⟨w,out,dn,i⟩ hp;intro K hK;(conv=>whnf);refine hK _ _ ?_;clear hK K)
 dsimp only
 have hp:Po.Putting ⟨s0,s1,s2,s3,s4⟩ l out dn i:=hp
 have hle:=hp.le
 have hol:=hp.len
 have hsl:=Po.savs_len out
 by_cases hlt:i<l.length
 ·have hx:l[i]?=some l[i]:=List.getElem?_eq_getElem hlt
  obtain ⟨g0,g1,g2,g3,g4⟩:=aH.get5 (f0:=fun s:Po.S=>.int .i64 s.port) (f1:=fun s=>.int .i64 s.p0) (f2:=fun s=>.int .i64 s.p1) (f3:=fun s=>.int .i64 s.p2) (f4:=fun s=>.int .i64 s.p3) hv hlt
  clear hen
  generalize l[i]=x at *
  obtain ⟨x0,x1,x2,x3,x4⟩:=x
  have ca:=oC ⟨s0,s1,s2,s3,s4⟩ ⟨x0,x1,x2,x3,x4⟩
  simp only [Po.S.av] at ca
  have hnx:∀ t:Po.S,Po.savs (out++[t])=Po.savs out++[.int .i64 t.port,.int .i64 t.p0,.int .i64 t.p1,.int .i64 t.p2,.int .i64 t.p3]:=Po.savs_next out
  have hnx2:∀ t u:Po.S,Po.savs (out++[t]++[u])=Po.savs out++[.int .i64 t.port,.int .i64 t.p0,.int .i64 t.p1,.int .i64 t.p2,.int .i64 t.p3]++[.int .i64 u.port,.int .i64 u.p0,.int .i64 u.p1,.int .i64 u.p2,.int .i64 u.p3]:=fun t u=>by rw [Po.savs_next,Po.savs_next]
  by_cases hxs:(⟨x0,x1,x2,x3,x4⟩:Po.S)=⟨s0,s1,s2,s3,s4⟩
  ·have hp2:Po.Putting ⟨s0,s1,s2,s3,s4⟩ l (out++[⟨x0,x1,x2,x3,x4⟩]) true (i+1):=by
    cases dn
    ·rw [hxs] at hx ⊢;exact hp.found hx
    ·exact hp.copy hx
   injection hxs with e0 e1 e2 e3 e4
   subst e0 e1 e2 e3 e4
   dsimp only at *
   (repeat' (first|(((with_reducible refine gC ?_);refine NCall.pureE (ca) ?_)<;>(conv=>whnf))|(refine sxA ?_;(first|clear hK K|skip);(first|clear hA hB A B|skip))|((first|((with_reducible refine NIf.yes ?s ?_);case s=>(simp ;done))|((with_reducible refine NIf.no ?s ?_);case s=>(simp ;done)))<;>(conv=>whnf))|((with_reducible refine st_ordR1 ?s1 ?s2 ?s3 ?_);(case s1=>kernel_rfl);(case s2=>kernel_rfl);(case s3=>exact rfl);intro K hK;conv=>whnf)|((with_reducible refine st_ordR1g ?s1 ?s2 ?s3 ?_);(case s1=>kernel_rfl);(case s2=>kernel_rfl);(case s3=>exact rfl);intro K hK;conv=>whnf)|((with_reducible refine st_ordR2 ?s2 ?_);(case s2=>kernel_rfl);intro K hK;conv=>whnf)|((with_reducible refine st_ordR2g ?s2 ?s3 ?_);(case s2=>kernel_rfl);(case s3=>exact rfl);intro K hK;conv=>whnf)|((with_reducible refine st_ordR0 ?s2 ?_);(case s2=>kernel_rfl))|(with_reducible refine bE ?_)|((with_reducible refine jU ?_);(first|(refine bo rfl (by kernel_rfl) rfl ?_;intro K hK;conv=>whnf)|(refine bS rfl (by kernel_rfl) rfl ?_;intro K hK;conv=>whnf)|refine bp rfl (by kernel_rfl) ?_|refine bm rfl rfl (by kernel_rfl) (by intro h;cases h) ?_))|((with_reducible refine jV ?_);(first|(refine bq ?_ ?_;(intro K hK;conv=>whnf))|(refine bT rfl ?_ ?_;(intro K hK;conv=>whnf))|exact bU))|((with_reducible refine gX ?_);refine bR rfl (by kernel_rfl) _ rfl ?_)|(refine bQ ?_;intro K hK;conv=>whnf)|(refine bF ?_;intro A B hA hB;conv=>whnf)|((with_reducible first|refine NIf.dec (fun _=>?_) (fun _=>?_)|refine NIf.both (fun _=>?_) (fun _=>?_))<;>(conv=>whnf))|((intro _;skip)<;>(conv=>whnf))))
   all_goals
    rename_i v9
    refine aB (v9,out++[⟨x0,x1,x2,x3,x4⟩],true,i+1) hp2 (by show l.length - (i+1)<l.length - i;omega) ?_ (MemFits.pre 3 ?_)
    ·dsimp only
     rw [List.length_append]
     exact aC
    ·simp only [autoM,List.take,hnx,List.length_append]
     rfl
  ·have hnb:(decide (x0=s0)&&(decide (x1=s1)&&(decide (x2=s2)&&(decide (x3=s3)&&(decide (x4=s4)&&true)))))=false:=by
    refine Bool.eq_false_iff.2 fun h=>hxs ?_
    simp only [Bool.and_eq_true,decide_eq_true_eq,and_true] at h
    obtain ⟨rfl,rfl,rfl,rfl,rfl⟩:=h
    rfl
   dsimp only at *
   cases dn with
   | true =>
    have hp2:=hp.copy hx
    (repeat' (first|(((with_reducible refine gC ?_);refine NCall.pureE (ca) ?_)<;>(conv=>whnf))|(refine sxA ?_;(first|clear hK K|skip);(first|clear hA hB A B|skip))|((first|((with_reducible refine NIf.yes ?s ?_);case s=>(rw [hnb];rfl))|((with_reducible refine NIf.no ?s ?_);case s=>(rw [hnb];rfl)))<;>(conv=>whnf))|((with_reducible refine st_ordR1 ?s1 ?s2 ?s3 ?_);(case s1=>kernel_rfl);(case s2=>kernel_rfl);(case s3=>exact rfl);intro K hK;conv=>whnf)|((with_reducible refine st_ordR1g ?s1 ?s2 ?s3 ?_);(case s1=>kernel_rfl);(case s2=>kernel_rfl);(case s3=>exact rfl);intro K hK;conv=>whnf)|((with_reducible refine st_ordR2 ?s2 ?_);(case s2=>kernel_rfl);intro K hK;conv=>whnf)|((with_reducible refine st_ordR2g ?s2 ?s3 ?_);(case s2=>kernel_rfl);(case s3=>exact rfl);intro K hK;conv=>whnf)|((with_reducible refine st_ordR0 ?s2 ?_);(case s2=>kernel_rfl))|(with_reducible refine bE ?_)|((with_reducible refine jU ?_);(first|(refine bo rfl (by kernel_rfl) rfl ?_;intro K hK;conv=>whnf)|(refine bS rfl (by kernel_rfl) rfl ?_;intro K hK;conv=>whnf)|refine bp rfl (by kernel_rfl) ?_|refine bm rfl rfl (by kernel_rfl) (by intro h;cases h) ?_))|((with_reducible refine jV ?_);(first|(refine bq ?_ ?_;(intro K hK;conv=>whnf))|(refine bT rfl ?_ ?_;(intro K hK;conv=>whnf))|exact bU))|((with_reducible refine gX ?_);refine bR rfl (by kernel_rfl) _ rfl ?_)|(refine bQ ?_;intro K hK;conv=>whnf)|(refine bF ?_;intro A B hA hB;conv=>whnf)|((with_reducible first|refine NIf.dec (fun _=>?_) (fun _=>?_)|refine NIf.both (fun _=>?_) (fun _=>?_))<;>(conv=>whnf))|((intro _;skip)<;>(conv=>whnf))))
    all_goals
     rename_i v9
     refine aB (v9,out++[⟨x0,x1,x2,x3,x4⟩],true,i+1) hp2 (by show l.length - (i+1)<l.length - i;omega) ?_ (MemFits.pre 3 ?_)
     ·dsimp only
      rw [List.length_append]
      exact aC
     ·simp only [autoM,List.take,hnx,List.length_append]
      rfl
   | false =>
    by_cases ha:Po.ahead ⟨s0,s1,s2,s3,s4⟩ ⟨x0,x1,x2,x3,x4⟩
    ·have hp2:=hp.here hx hxs ha
     rw [decide_eq_true ha] at ca
     clear ha hxs
     (repeat' (first|(((with_reducible refine gC ?_);refine NCall.pureE (ca) ?_)<;>(conv=>whnf))|(refine sxA ?_;(first|clear hK K|skip);(first|clear hA hB A B|skip))|((first|((with_reducible refine NIf.yes ?s ?_);case s=>(rw [hnb];rfl))|((with_reducible refine NIf.no ?s ?_);case s=>(rw [hnb];rfl)))<;>(conv=>whnf))|((with_reducible refine st_ordR1 ?s1 ?s2 ?s3 ?_);(case s1=>kernel_rfl);(case s2=>kernel_rfl);(case s3=>exact rfl);intro K hK;conv=>whnf)|((with_reducible refine st_ordR1g ?s1 ?s2 ?s3 ?_);(case s1=>kernel_rfl);(case s2=>kernel_rfl);(case s3=>exact rfl);intro K hK;conv=>whnf)|((with_reducible refine st_ordR2 ?s2 ?_);(case s2=>kernel_rfl);intro K hK;conv=>whnf)|((with_reducible refine st_ordR2g ?s2 ?s3 ?_);(case s2=>kernel_rfl);(case s3=>exact rfl);intro K hK;conv=>whnf)|((with_reducible refine st_ordR0 ?s2 ?_);(case s2=>kernel_rfl))|(with_reducible refine bE ?_)|((with_reducible refine jU ?_);(first|(refine bo rfl (by kernel_rfl) rfl ?_;intro K hK;conv=>whnf)|(refine bS rfl (by kernel_rfl) rfl ?_;intro K hK;conv=>whnf)|refine bp rfl (by kernel_rfl) ?_|refine bm rfl rfl (by kernel_rfl) (by intro h;cases h) ?_))|((with_reducible refine jV ?_);(first|(refine bq ?_ ?_;(intro K hK;conv=>whnf))|(refine bT rfl ?_ ?_;(intro K hK;conv=>whnf))|exact bU))|((with_reducible refine gX ?_);refine bR rfl (by kernel_rfl) _ rfl ?_)|(refine bQ ?_;intro K hK;conv=>whnf)|(refine bF ?_;intro A B hA hB;conv=>whnf)|((with_reducible first|refine NIf.dec (fun _=>?_) (fun _=>?_)|refine NIf.both (fun _=>?_) (fun _=>?_))<;>(conv=>whnf))|((intro _;skip)<;>(conv=>whnf))))
     all_goals
      rename_i v9
      refine aB (v9,out++[⟨s0,s1,s2,s3,s4⟩]++[⟨x0,x1,x2,x3,x4⟩],true,i+1) hp2 (by show l.length - (i+1)<l.length - i;omega) ?_ (MemFits.pre 3 ?_)
      ·dsimp only
       rw [List.length_append,List.length_append]
       exact aC
      ·simp only [autoM,List.take,hnx2,List.length_append]
       rfl
    ·have hp2:=hp.past hx hxs ha
     rw [decide_eq_false ha] at ca
     clear ha hxs
     (repeat' (first|(((with_reducible refine gC ?_);refine NCall.pureE (ca) ?_)<;>(conv=>whnf))|(refine sxA ?_;(first|clear hK K|skip);(first|clear hA hB A B|skip))|((first|((with_reducible refine NIf.yes ?s ?_);case s=>(rw [hnb];rfl))|((with_reducible refine NIf.no ?s ?_);case s=>(rw [hnb];rfl)))<;>(conv=>whnf))|((with_reducible refine st_ordR1 ?s1 ?s2 ?s3 ?_);(case s1=>kernel_rfl);(case s2=>kernel_rfl);(case s3=>exact rfl);intro K hK;conv=>whnf)|((with_reducible refine st_ordR1g ?s1 ?s2 ?s3 ?_);(case s1=>kernel_rfl);(case s2=>kernel_rfl);(case s3=>exact rfl);intro K hK;conv=>whnf)|((with_reducible refine st_ordR2 ?s2 ?_);(case s2=>kernel_rfl);intro K hK;conv=>whnf)|((with_reducible refine st_ordR2g ?s2 ?s3 ?_);(case s2=>kernel_rfl);(case s3=>exact rfl);intro K hK;conv=>whnf)|((with_reducible refine st_ordR0 ?s2 ?_);(case s2=>kernel_rfl))|(with_reducible refine bE ?_)|((with_reducible refine jU ?_);(first|(refine bo rfl (by kernel_rfl) rfl ?_;intro K hK;conv=>whnf)|(refine bS rfl (by kernel_rfl) rfl ?_;intro K hK;conv=>whnf)|refine bp rfl (by kernel_rfl) ?_|refine bm rfl rfl (by kernel_rfl) (by intro h;cases h) ?_))|((with_reducible refine jV ?_);(first|(refine bq ?_ ?_;(intro K hK;conv=>whnf))|(refine bT rfl ?_ ?_;(intro K hK;conv=>whnf))|exact bU))|((with_reducible refine gX ?_);refine bR rfl (by kernel_rfl) _ rfl ?_)|(refine bQ ?_;intro K hK;conv=>whnf)|(refine bF ?_;intro A B hA hB;conv=>whnf)|((with_reducible first|refine NIf.dec (fun _=>?_) (fun _=>?_)|refine NIf.both (fun _=>?_) (fun _=>?_))<;>(conv=>whnf))|((intro _;skip)<;>(conv=>whnf))))
     all_goals
      rename_i v9
      refine aB (v9,out++[⟨x0,x1,x2,x3,x4⟩],false,i+1) hp2 (by show l.length - (i+1)<l.length - i;omega) ?_ (MemFits.pre 3 ?_)
      ·dsimp only
       rw [List.length_append]
       exact aC
      ·simp only [autoM,List.take,hnx,List.length_append]
       rfl
 ·have hil:i=l.length:=by omega
  subst hil
  have he:=hen out dn hp
  clear hen
  cases dn with
  | true =>
   rw [if_pos rfl] at he
   subst he
   repeat' first|(refine sxZ ?_;try clear hK K)|refine sxW ?_ ?_<;>intro _|(intro K hK _;conv=>whnf)
   all_goals exact ⟨w,rfl,MemFits.pick [0,2] (by decide) rfl⟩
  | false =>
   rw [if_neg (by decide)] at he
   rw [he,List.length_append,Po.savs_next]
   clear he hI
   repeat' first|(refine sxZ ?_;try clear hK K)|refine sxW ?_ ?_<;>intro _|(intro K hK _;conv=>whnf)
   all_goals
    rename_i v9
    exact ⟨v9,rfl,MemFits.pick [0,2] (by decide) rfl⟩
theorem mV (F:Heap) (v:Value) (l:List Po.S) (s:Po.S) (hn:l.length≤1000000) (hv:Po.SRow F v l) :
  NCall Tryz.prog 10 [.hs v l.length,.agg s.av] [hpB F] fun r m=>∃ F' w,F.le F'∧Po.SRow F' w (Po.ins s l)∧r = .hs w (Po.ins s l).length∧m=[hpB F']:=de (nP F v l s hn hv)
namespace Po
theorem wideS_min {l:List T} (hp:∀ y∈l,1≤wide y):∀ m,min m 1000≤wideS m l:=by
 induction l with
 | nil=>intro m;rw [wideS];exact Nat.min_le_left _ _
 | cons y l ih =>
  intro m
  have h:=ih (fun z hz=>hp z (by simp [hz])) (min (m*wide y) 1000)
  have h2:=Nat.mul_le_mul_left m (hp y (by simp))
  rw [wideS]
  omega
theorem wideU_min {l:List T}:∀ m,min m 1000≤wideU m l:=by
 induction l with
 | nil=>intro m;rw [wideU];exact Nat.min_le_left _ _
 | cons y l ih =>
  intro m
  have h:=ih (min (m+wide y) 1000)
  rw [wideU]
  omega
theorem wideS_pre {l:List T} (hp:∀ y∈l,1≤wide y) (i:Nat):wideS 1 (l.take i)≤wideS 1 l:=by
 have h:=wideS_append (l.take i) (l.drop i) 1
 rw [List.take_append_drop] at h
 have h2:=wideS_min (l:=l.drop i) (fun z hz=>hp z (List.mem_of_mem_drop hz)) (wideS 1 (l.take i))
 have h3:=wideS_le (l.take i) 1 (by decide)
 omega
theorem wideU_pre {l:List T} (i:Nat):wideU 0 (l.take i)≤wideU 0 l:=by
 have h:=wideU_append (l.take i) (l.drop i) 0
 rw [List.take_append_drop] at h
 have h2:=wideU_min (l:=l.drop i) (wideU 0 (l.take i))
 have h3:=wideU_le (l.take i) 0 (by decide)
 omega
theorem wideS_one {l:List T} (hp:∀ y∈l,1≤wide y) {i:Nat} (h:i<l.length):wide l[i]≤wideS 1 l:=by
 have h1:=wideS_pre hp (i+1)
 rw [wideS_take 1 h] at h1
 have h2:=wideS_min (l:=l.take i) (fun z hz=>hp z (List.mem_of_mem_take hz)) 1
 have h3:=wide_le l[i]
 have h4:=Nat.mul_le_mul_right (wide l[i]) (show 1≤wideS 1 (l.take i) by omega)
 omega
theorem wideU_one {l:List T} {i:Nat} (h:i<l.length):wide l[i]≤wideU 0 l:=by
 have h1:=wideU_pre (l:=l) (i+1)
 rw [wideU_take 0 h] at h1
 have h3:=wide_le l[i]
 omega
theorem seq_parts (sw k:Int) {p:Pd.T} {f v:Int} {l:List T} (h:fits (.mk 3 p f v l)=true) (hw:wide (.mk 3 p f v l)<1000) (s:S):(∀ i,(runsQ sw (l.take i) [s]).length<1000)∧∀ i (hi:i<l.length),wide l[i]<1000∧∀ s,(runs sw l[i] s).length≤wide l[i]:=by
 obtain ⟨_,hfl⟩:=fits_iff.1 h
 have hp:∀ y∈l,1≤wide y:=fun y hy=>wide_pos _ y (Nat.le_refl _) (hfl y hy)
 have hr:∀ y∈l,∀ s,wide y<1000→(runs sw y s).length≤wide y:=fun y hy=>runs_len sw _ y (Nat.le_refl _) (hfl y hy)
 rw [wide_mk,if_pos rfl] at hw
 refine ⟨fun i=>?_,fun i hi=>?_⟩
 ·have h1:=wideS_pre hp i
  have:=runsQ_len sw (l.take i) [s] 1 (fun y hy=>hr y (List.mem_of_mem_take hy)) (fun y hy=>hp y (List.mem_of_mem_take hy)) (Nat.le_refl _) (by simp) (by omega)
  omega
 ·have h1:=wideS_one hp hi
  exact ⟨by omega,fun s=>hr _ (List.getElem_mem hi) s (by omega)⟩
theorem uni_parts (sw:Int) {p:Pd.T} {f v:Int} {l:List T} (h:fits (.mk 4 p f v l)=true) (hw:wide (.mk 4 p f v l)<1000) (s:S):(∀ i,(runsU sw (l.take i) s []).length<1000)∧∀ i (hi:i<l.length),wide l[i]<1000∧∀ s,(runs sw l[i] s).length≤wide l[i]:=by
 obtain ⟨_,hfl⟩:=fits_iff.1 h
 have hr:∀ y∈l,∀ s,wide y<1000→(runs sw y s).length≤wide y:=fun y hy=>runs_len sw _ y (Nat.le_refl _) (hfl y hy)
 rw [wide_mk,if_neg (by decide),if_pos rfl] at hw
 refine ⟨fun i=>?_,fun i hi=>?_⟩
 ·have h1:=wideU_pre (l:=l) i
  have:=runsU_len sw s (l.take i) [] 0 (fun y hy=>hr y (List.mem_of_mem_take hy) s) (by simp) (by omega)
  omega
 ·have h1:=wideU_one hi
  exact ⟨by omega,fun s=>hr _ (List.getElem_mem hi) s (by omega)⟩
theorem if_parts {p:Pd.T} {f v:Int} {a b:T} (hw:wide (.mk 5 p f v [a,b])<1000):wide a<1000∧wide b<1000:=by
 rw [wide_mk,if_neg (by decide),if_neg (by decide),if_pos rfl] at hw
 have h1:=(wideI_ge [a,b] 0).2 a (by simp)
 have h2:=(wideI_ge [a,b] 0).2 b (by simp)
 omega
theorem runs_k3 (sw f v:Int) (p:Pd.T) (l:List T) (t:S):runs sw (.mk 3 p f v l) t=runsQ sw l [t]:=by rw [runs_mk];simp
theorem runs_k4 (sw f v:Int) (p:Pd.T) (l:List T) (t:S):runs sw (.mk 4 p f v l) t=runsU sw l t []:=by rw [runs_mk];simp
theorem runs_k5 (sw f v:Int) (p:Pd.T) (a b:T) (t:S):runs sw (.mk 5 p f v [a,b]) t=if Pd.hits (t.at_ sw) p=true then runs sw a t else runs sw b t:=by rw [runs_mk,runsA,runsB,runsA];simp
theorem runsU_nil (sw:Int) (t:S):runsU sw ([]:List T) t []=[]:=by rw [runsU]
theorem fold_take (sw:Int) (y:T) {out:List S} {k:Nat} (h:k<out.length):(out.take (k+1)).foldl (fun next t=>both next (runs sw y t)) []=both ((out.take k).foldl (fun next t=>both next (runs sw y t)) []) (runs sw y out[k]):=by
 rw [List.take_add_one,List.getElem?_eq_getElem h,Option.toList_some,List.foldl_append];rfl
theorem both_take (a:List S) {b:List S} {k:Nat} (h:k<b.length):both a (b.take (k+1))=ins b[k] (both a (b.take k)):=by
 unfold both
 rw [List.take_add_one,List.getElem?_eq_getElem h,Option.toList_some,List.foldl_append];rfl
end Po
namespace Pd
theorem cnt_le (x:At) (l:List T):cnt x l≤l.length:=by unfold cnt;exact List.length_filter_le _ _
theorem cnt_append (x:At) (a b:List T):cnt x (a++b)=cnt x a+cnt x b:=by unfold cnt;rw [List.filter_append,List.length_append]
theorem cnt_take (x:At) {l:List T} {k:Nat} (h:k<l.length):cnt x (l.take (k+1))=cnt x (l.take k)+(if hits x l[k]=true then 1 else 0):=by
 rw [List.take_add_one,List.getElem?_eq_getElem h,cnt_append]
 congr 1
 unfold cnt
 cases hh:hits x l[k]<;>simp [hh]
theorem cnt_all (x:At) (l:List T):hitsAll x l=decide (cnt x l=l.length):=by
 induction l with
 | nil=>simp [hitsAll,cnt]
 | cons p l ih =>
  have h1:=cnt_le x l
  have e:cnt x (p::l)=(if hits x p=true then 1 else 0)+cnt x l:=by
   unfold cnt
   cases hh:hits x p<;>simp [hh]
   omega
  rw [hitsAll,ih,e,List.length_cons]
  cases hits x p
  ·simp;omega
  ·simp;omega
theorem cnt_none (x:At) (l:List T):(!hitsNone x l)=decide (0<cnt x l):=by
 induction l with
 | nil=>simp [hitsNone,cnt]
 | cons p l ih =>
  have e:cnt x (p::l)=(if hits x p=true then 1 else 0)+cnt x l:=by
   unfold cnt
   cases hh:hits x p<;>simp [hh]
   omega
  rw [hitsNone,e]
  cases hits x p
  ·simp only [Bool.not_false,Bool.true_and,ih];simp
  ·simp;omega
end Pd
theorem cO (F:Heap) (x:Pd.At):∀ (n:Nat) (p:Pd.T) (u:Value),Pd.size p≤n→Pd.size p≤4611686018427387904→Pd.Row F u p.l →
  NCall Tryz.prog 28 [.agg (Pd.cs p u),.int .i64 x.sw,.int .i64 x.port,.agg x.pk] [hpB F] fun r m=>r = .bool (Pd.hits x p)∧m=[hpB F]
 | 0,p,u,hn,_,_=>absurd (Pd.size_pos p) (by omega)
 | n+1,⟨k,f,v,l⟩,u,hn,hs,hu=>by
  refine NCall.fits (K:=fun r m=>r = .bool (Pd.hits x (.mk k f v l))∧MemFits m [hpB F]) ?_ fun r m' h=>⟨r,_,rfl,h.2,h.1,rfl⟩
  have hu:Pd.Row F u l:=hu
  have hok:=hu.ok
  have hll:=Pd.length_le l
  have e2:Pd.size (.mk k f v l)=1+Pd.sizeL l:=by rw [Pd.size]
  have ih:∀ y∈l,∀ A,Pd.Row F A y.l→NCall Tryz.prog 28 [.agg (Pd.cs y A),.int .i64 x.sw,.int .i64 x.port,.agg x.pk] [hpB F] fun r m=>r = .bool (Pd.hits x y)∧m=[hpB F]:=fun y hy A hA=>cO F x n y A (by have:=Pd.size_lt (k:=k) (f:=f) (v:=v) hy;omega) (by have:=Pd.size_lt (k:=k) (f:=f) (v:=v) hy;omega) hA
  have hget:=lY f x
  refine aA Tryz.func28 rfl (by decide) ?_
  rw [ab]
  by_cases h1:k=1
  ·subst h1
   rw [Pd.hits_1]
   obtain ⟨sw,port,p0,p1,p2,p3⟩:=x
   simp only [Pd.At.pk] at *
   repeat' first|(refine sxZ ?_;try clear hK K)|refine sxW ?_ ?_<;>intro _|(intro K hK _;conv=>whnf)
   all_goals exact ⟨rfl,MemFits.pre 1 rfl⟩
  by_cases h3:k=3
  ·subst h3
   rw [Pd.hits_3]
   clear ih
   generalize hgv:Pd.get f x=gv at *
   obtain ⟨sw,port,p0,p1,p2,p3⟩:=x
   simp only [Pd.At.pk] at *
   by_cases hr:0≤f∧f≤5
   ·by_cases hv:gv=v
    ·rw [decide_eq_true ⟨hr,hv⟩]
     subst hv
     repeat' first|((try intro K hK);(with_reducible refine gC ?_);refine cP hget ?_)|((first|intro A B hA hB|intro K hK|skip);first|((with_reducible refine NIf.yes ?s ?_);(case s=>simp ;done);conv=>whnf)|((with_reducible refine NIf.no ?s ?_);(case s=>simp ;done);conv=>whnf))|(refine aV [] ?_;(try clear hK K);try clear hA hB A B)|refine sxW ?_ ?_<;>intro _|refine aW ?_ ?_|(intro K hK _;conv=>whnf)
     all_goals exact ⟨by simp,MemFits.pre 1 rfl⟩
    ·rw [decide_eq_false (fun h=>hv h.2)]
     repeat' first|((try intro K hK);(with_reducible refine gC ?_);refine cP hget ?_)|((first|intro A B hA hB|intro K hK|skip);first|((with_reducible refine NIf.yes ?s ?_);(case s=>simp [hv];done);conv=>whnf)|((with_reducible refine NIf.no ?s ?_);(case s=>simp [hv];done);conv=>whnf))|(refine aV [] ?_;(try clear hK K);try clear hA hB A B)|refine sxW ?_ ?_<;>intro _|refine aW ?_ ?_|(intro K hK _;conv=>whnf)
     all_goals exact ⟨by simp [hv],MemFits.pre 1 rfl⟩
   ·rw [decide_eq_false (fun h=>hr h.1)]
    repeat' first|(intro K hK;(with_reducible refine gC ?_);refine cP hget ?_)|(refine aV [] ?_;try clear hK K)|refine sxW ?_ ?_<;>intro _|refine aW ?_ ?_|(intro K hK _;conv=>whnf)
    all_goals exact ⟨by simp,MemFits.pre 1 rfl⟩
  by_cases h4:k=4
  ·subst h4
   cases l with
   | nil =>
    rw [Pd.hits_4n]
    obtain ⟨sw,port,p0,p1,p2,p3⟩:=x
    simp only [Pd.At.pk,List.length_nil] at *
    repeat' first|(refine aV [] ?_;try clear hK K)|refine sxW ?_ ?_<;>intro _|refine aW ?_ ?_|(intro K hK _;conv=>whnf)
    all_goals first
     | exact ⟨rfl,MemFits.pre 1 rfl⟩
     | (exfalso;omega)
   | cons q l =>
    rw [Pd.hits_4]
    obtain ⟨A,cap,hA,c0,c1,c2,c3⟩:=hu.get (i:=0) (x:=q) rfl
    have c:=ih q (by simp) _ hA
    clear ih
    generalize Pd.hits x q=hb at *
    simp only [Pd.cs] at c
    generalize hln:(q::l).length=ln at *
    have hpos:0<ln:=by rw [← hln];simp
    obtain ⟨sw,port,p0,p1,p2,p3⟩:=x
    simp only [Pd.At.pk] at *
    repeat' first|(intro K hK;(with_reducible refine gC ?_);refine cS [0] c ?_)|(refine aV [] ?_;try clear hK K)|refine sxW ?_ ?_<;>intro _|refine aW ?_ ?_|(intro K hK _;conv=>whnf)
    all_goals first
     | exact ⟨rfl,MemFits.pre 1 rfl⟩
     | (exfalso;omega)
  have hans:Pd.hits x (.mk k f v l)=(decide (k=5)&&decide (Pd.cnt x l=l.length)||decide (k=6)&&decide (0<Pd.cnt x l)):=by
   by_cases h5:k=5
   ·subst h5;rw [Pd.hits_5,Pd.cnt_all];simp
   ·by_cases h6:k=6
    ·subst h6;rw [Pd.hits_6,Pd.cnt_none];simp
    ·rw [Pd.hits_no x k f v l (by omega)];simp [h5,h6]
  rw [hans]
  repeat' first|(refine sxZ ?_;try clear hK K)|refine sxW ?_ ?_<;>intro _|(intro K hK _;conv=>whnf)
  refine aD (α:=Nat) (fun i=>i≤l.length) (fun i=>[.k,.k,.k,.k,.k,.k,.k,.k,.k,.set (.int .i64 (Pd.cnt x (l.take i):Nat)),.set (.int .i64 i),.k,.k,.k,.k,.k,.k,.k,.k,.k,.k,.k,.k,.k,.k,.k,.k,.k,.k,.k,.k,.k,.k,.k,.k,.k,.k,.k,.k,.k,.k,.k,.k,.k,.k,.k,.k,.k,.k,.k,.k,.k,.k,.k,.d,.d,.d,.d,.d,.d,.d,.d,.d,.d,.d,.d,.d,.d,.d,.d,.d,.d,.k,.k,.k,.k,.k,.k,.k,.k,.k,.k,.k,.k,.k,.k,.k,.k,.k,.k,.k]) (fun _=>[]) (fun i=>l.length - i) 0 (Nat.zero_le _) ?_ (MemFits.eq rfl) ?_
  ·repeat (first | exact FitsSl.nil | refine FitsSl.any ?_ | refine FitsSl.cons (Fit1.int (by  simp [Pd.cnt])) ?_ | refine FitsSl.cons (Fit1.int (by first | rfl | omega)) ?_ | refine FitsSl.cons (Fit1.bool rfl) ?_ | refine FitsSl.cons (Fit1.str rfl) ?_ | refine FitsSl.cons (Fit1.same (by intro h;cases h) (by with_reducible rfl)) ?_ | refine FitsSl.cons Fit1.nil_sl ?_ | refine FitsSl.cons (Fit1.hs rfl) ?_ | refine FitsSl.cons (Fit1.hp rfl rfl) ?_ | refine FitsSl.cons (Fit1.sl rfl) ?_ | refine FitsSl.cons (Fit1.ptr rfl rfl) ?_ | refine FitsSl.cons Fit1.raw ?_)
  (intro i hi;intro K hK;(conv=>whnf);refine hK _ _ ?_;clear hK K)
  have hcl:=Pd.cnt_le x (l.take i)
  rw [List.length_take] at hcl
  by_cases hlt:i<l.length
  ·have hx:l[i]?=some l[i]:=List.getElem?_eq_getElem hlt
   obtain ⟨A,cap,hA,c0,c1,c2,c3⟩:=hu.get hx
   have hmem:=List.mem_of_getElem? hx
   have c:=ih _ hmem _ hA
   have hnx:=Pd.cnt_take x hlt
   clear ih hans
   generalize l[i]=y at *
   simp only [Pd.cs] at c
   generalize Pd.cnt x (l.take i)=ci at *
   cases hq:Pd.hits x y with
   | true =>
    rw [hq] at c hnx
    simp only [Pd.At.pk] at *
    repeat' first|(intro K hK;(with_reducible refine gC ?_);refine cS [0] c ?_)|(refine aV [] ?_;try clear hK K)|refine sxW ?_ ?_<;>intro _|refine aW ?_ ?_|(intro K hK _;conv=>whnf)
    all_goals refine aB (i+1) hlt (by omega) ?_ (MemFits.eq rfl)
    all_goals repeat (first | exact FitsSl.nil | refine FitsSl.any ?_ | refine FitsSl.cons (Fit1.int (by  (rw [hnx];simp))) ?_ | refine FitsSl.cons (Fit1.int (by first | rfl | omega)) ?_ | refine FitsSl.cons (Fit1.bool rfl) ?_ | refine FitsSl.cons (Fit1.str rfl) ?_ | refine FitsSl.cons (Fit1.same (by intro h;cases h) (by with_reducible rfl)) ?_ | refine FitsSl.cons Fit1.nil_sl ?_ | refine FitsSl.cons (Fit1.hs rfl) ?_ | refine FitsSl.cons (Fit1.hp rfl rfl) ?_ | refine FitsSl.cons (Fit1.sl rfl) ?_ | refine FitsSl.cons (Fit1.ptr rfl rfl) ?_ | refine FitsSl.cons Fit1.raw ?_)
   | false =>
    rw [hq] at c hnx
    simp only [Pd.At.pk] at *
    repeat' first|(intro K hK;(with_reducible refine gC ?_);refine cS [0] c ?_)|(refine aV [] ?_;try clear hK K)|refine sxW ?_ ?_<;>intro _|refine aW ?_ ?_|(intro K hK _;conv=>whnf)
    all_goals refine aB (i+1) hlt (by omega) ?_ (MemFits.eq rfl)
    all_goals repeat (first | exact FitsSl.nil | refine FitsSl.any ?_ | refine FitsSl.cons (Fit1.int (by  (rw [hnx];simp))) ?_ | refine FitsSl.cons (Fit1.int (by first | rfl | omega)) ?_ | refine FitsSl.cons (Fit1.bool rfl) ?_ | refine FitsSl.cons (Fit1.str rfl) ?_ | refine FitsSl.cons (Fit1.same (by intro h;cases h) (by with_reducible rfl)) ?_ | refine FitsSl.cons Fit1.nil_sl ?_ | refine FitsSl.cons (Fit1.hs rfl) ?_ | refine FitsSl.cons (Fit1.hp rfl rfl) ?_ | refine FitsSl.cons (Fit1.sl rfl) ?_ | refine FitsSl.cons (Fit1.ptr rfl rfl) ?_ | refine FitsSl.cons Fit1.raw ?_)
  ·have hkl:i=l.length:=by omega
   subst hkl
   rw [List.take_length] at hcl ⊢
   generalize Pd.cnt x l=ci at *
   clear ih hans
   repeat' first|(refine sxZ ?_;try clear hK K)|refine sxW ?_ ?_<;>intro _|(intro K hK _;conv=>whnf)
   all_goals
    refine ⟨?_,MemFits.pre 1 rfl⟩
    congr 1
    first
     | (simp;omega)
     | (rw [Bool.eq_iff_iff];simp;omega)
end Go.Proofs.YtmehinfgdcmmjaaGreat
