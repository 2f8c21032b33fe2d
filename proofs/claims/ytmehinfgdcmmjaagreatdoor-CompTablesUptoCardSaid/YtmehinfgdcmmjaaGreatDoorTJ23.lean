/- A part of the proof. -/
import Derived.Test.YtmehinfgdcmmjaaGreatDoorTJ15
import Derived.Test.YtmehinfgdcmmjaaGreatDoorTJ6
import Derived.Test.YtmehinfgdcmmjaaGreatDoorTJ1
namespace Go.Proofs.YtmehinfgdcmmjaaGreatDoor
open Go.Sx
set_option maxRecDepth 20000
set_option linter.unusedSimpArgs false
set_option linter.unusedVariables false
set_option maxHeartbeats 4000000
theorem mw (f:Int):Qz Tryz.prog 23 [.int .i64 f] [] fun r _=>r = .int .i64 (Po.ptop f):=by
 refine aB Tryz.func23 rfl (by decide) ?_
 unfold Po.ptop
 by_cases h2:f=2
 ·subst h2
  repeat' first|(refine sxZ ?_;try clear hK K)|refine sxW ?_ ?_<;>intro _|(intro K hK _;conv=>whnf)
  all_goals rfl
 rw [if_neg h2]
 by_cases h3:f=0∨f=1∨f=3
 ·rw [if_pos h3]
  rcases h3 with rfl | rfl | rfl
  all_goals (repeat' first|(refine sxZ ?_;try clear hK K)|refine sxW ?_ ?_<;>intro _|(intro K hK _;conv=>whnf))
  all_goals rfl
 ·rw [if_neg h3]
  repeat' first|(refine sxZ ?_;try clear hK K)|refine sxW ?_ ?_<;>intro _|(intro K hK _;conv=>whnf)
  all_goals first | rfl | (exfalso;omega)
theorem jg (s:Po.S) (f v:Int):Qz Tryz.prog 206 [.agg [.int .i64 s.p0,.int .i64 s.p1,.int .i64 s.p2,.int .i64 s.p3],.int .i64 f,.int .i64 v] [] fun r _=>r = .agg [.int .i64 (Po.withS f v s).p0,.int .i64 (Po.withS f v s).p1,.int .i64 (Po.withS f v s).p2,.int .i64 (Po.withS f v s).p3]:=by
 have ht:=mw f
 refine aB Tryz.func206 rfl (by decide) ?_
 have hw:Po.withS f v s=if (0≤f∧f<4)∧0≤v∧v≤Po.ptop f then (if f=0 then { s with p0:=v } else if f=1 then { s with p1:=v } else if f=2 then { s with p2:=v } else { s with p3:=v }) else s:=rfl
 generalize Po.withS f v s=E at *
 generalize Po.ptop f=tp at *
 by_cases h4:0≤f∧f<4
 ·obtain ⟨a0,a,b,c,d⟩:=s
  by_cases hv:0≤v∧v≤tp
  ·rw [if_pos ⟨h4,hv⟩] at hw
   have h4':f=0∨f=1∨f=2∨f=3:=by omega
   rcases h4' with rfl | rfl | rfl | rfl
   all_goals
    subst hw
    simp only
    repeat' first|(intro K hK;(with_reducible refine gC ?_);refine cP ht ?_)|(refine sxZ ?_;try clear hK K)|refine sxW ?_ ?_<;>intro _|(intro K hK _;conv=>whnf)
    all_goals rfl
  ·rw [if_neg (fun h=>hv h.2)] at hw
   subst hw
   simp only
   repeat' first|(intro K hK;(with_reducible refine gC ?_);refine cP ht ?_)|(refine sxZ ?_;try clear hK K)|refine sxW ?_ ?_<;>intro _|(intro K hK _;conv=>whnf)
   all_goals first | rfl | (exfalso;omega)
 ·rw [if_neg (fun h=>h4 h.1)] at hw
  rw [hw]
  clear hw
  obtain ⟨a0,a,b,c,d⟩:=s
  simp only
  repeat' first|(intro K hK;(with_reducible refine gC ?_);refine cP ht ?_)|(refine sxZ ?_;try clear hK K)|refine sxW ?_ ?_<;>intro _|(intro K hK _;conv=>whnf)
  all_goals first | rfl | (exfalso;omega)
theorem nn (x y:Po.S):Qz Tryz.prog 32 [.agg x.av,.agg y.av] [] fun r _=>r = .bool (decide (Po.ahead x y)):=by
 have hd:∀ b:Prop,∀ _:Decidable b,(Po.ahead x y↔b)→AV.bool (decide b) = .bool (decide (Po.ahead x y)):=fun b _ h=>by congr 1;exact decide_eq_decide.2 h.symm
 have hF:¬ Po.ahead x y→AV.bool false = .bool (decide (Po.ahead x y)):=fun h=>by rw [decide_eq_false h]
 unfold Po.ahead at *
 obtain ⟨a0,a1,a2,a3,a4⟩:=x
 obtain ⟨b0,b1,b2,b3,b4⟩:=y
 dsimp only [Po.S.av] at *
 refine aB Tryz.func32 rfl (by decide) ?_
 (repeat' (first|(with_reducible first|(refine hK _ _ ?_;clear hK K)|(refine hA ?_;clear hA hB A B)|(refine hB ?_;clear hA hB A B)|(refine hK _ ?_;clear hK K))|refine dY ?_|((with_reducible refine gNO ?_);(first|(refine z36 rfl (by kernel_rfl) ?_;intro K hK;conv=>whnf)|(refine z37 rfl (by kernel_rfl) ?_;intro K hK;conv=>whnf)|refine z38 rfl (by kernel_rfl) ?_|refine z39 rfl rfl (by kernel_rfl) (by intro h;cases h) ?_))|((with_reducible refine gNE ?_);(first|(refine z40 ?_ ?_;(intro K hK;conv=>whnf))|(refine z41 ?_ ?_;(intro K hK;conv=>whnf))|exact z42))|((with_reducible refine gX ?_);(first|refine z34 (by kernel_rfl) (by decide +kernel) ?_|refine z35 (by kernel_rfl) _ rfl ?_|(with_reducible refine bQ 6 ?_)))|refine eF ?_|(refine eG ?_;intro K hK;conv=>whnf)|(refine eH ?_;intro A B hA hB;conv=>whnf)|((with_reducible first|refine NIf.dec (fun _=>?_) (fun _=>?_)|refine NIf.both (fun _=>?_) (fun _=>?_))<;>(conv=>whnf))|((intro _;skip)<;>(conv=>whnf))))
 all_goals first
  | (refine hd _ _ ?_;omega)
  | (refine hF ?_;omega)
  | (exfalso;omega)
namespace Po
structure Putting (s:S) (l out:List S) (dn:Bool) (i:Nat):Prop where
 le:i≤l.length
 yes:dn=true→ins s l=out++l.drop i
 no:dn=false→out=l.take i∧ins s l=l.take i++ins s (l.drop i)
 len:out.length≤i+1
theorem Putting.zero (s:S) (l:List S):Putting s l [] false 0:=⟨Nat.zero_le _,(fun h=>by cases h),fun _=>⟨rfl,rfl⟩,by simp⟩
theorem Putting.copy {s:S} {l out:List S} {i:Nat} {x:S} (h:Putting s l out true i) (hx:l[i]?=some x):Putting s l (out++[x]) true (i+1):=by
 obtain ⟨hlt,rfl⟩:=List.getElem?_eq_some_iff.1 hx
 refine ⟨hlt,fun _=>?_,(fun h=>by cases h),by have:=h.len;simp;omega⟩
 rw [h.yes rfl,List.drop_eq_getElem_cons hlt,List.append_assoc];rfl
theorem Putting.found {s:S} {l out:List S} {i:Nat} (h:Putting s l out false i) (hx:l[i]?=some s):Putting s l (out++[s]) true (i+1):=by
 obtain ⟨hlt,e⟩:=List.getElem?_eq_some_iff.1 hx
 obtain ⟨h1,h2⟩:=h.no rfl
 refine ⟨hlt,fun _=>?_,(fun h=>by cases h),by have:=h.len;simp;omega⟩
 rw [h2,h1,List.drop_eq_getElem_cons hlt,e,ins,if_pos rfl,List.append_assoc];rfl
theorem Putting.here {s:S} {l out:List S} {i:Nat} {x:S} (h:Putting s l out false i) (hx:l[i]?=some x) (hne:x≠s) (ha:ahead s x):Putting s l (out++[s]++[x]) true (i+1):=by
 obtain ⟨hlt,rfl⟩:=List.getElem?_eq_some_iff.1 hx
 obtain ⟨h1,h2⟩:=h.no rfl
 have hl:out.length=i:=by rw [h1,List.length_take];omega
 refine ⟨hlt,fun _=>?_,(fun h=>by cases h),by simp;omega⟩
 rw [h2,h1,List.drop_eq_getElem_cons hlt,ins,if_neg hne,if_pos ha];simp
theorem Putting.past {s:S} {l out:List S} {i:Nat} {x:S} (h:Putting s l out false i) (hx:l[i]?=some x) (hne:x≠s) (ha:¬ ahead s x):Putting s l (out++[x]) false (i+1):=by
 obtain ⟨hlt,rfl⟩:=List.getElem?_eq_some_iff.1 hx
 obtain ⟨h1,h2⟩:=h.no rfl
 refine ⟨hlt,(fun h=>by cases h),fun _=>?_,by have:=h.len;simp;omega⟩
 have e:l.take (i+1)=l.take i++[l[i]]:=by rw [List.take_add_one,List.getElem?_eq_getElem hlt];rfl
 refine ⟨by rw [h1,e],?_⟩
 rw [h2,e,List.drop_eq_getElem_cons hlt,ins,if_neg hne,if_neg ha,List.append_assoc];rfl
theorem Putting.end_ {s:S} {l out:List S} {dn:Bool} (h:Putting s l out dn l.length):ins s l=if dn then out else out++[s]:=by
 cases dn
 ·obtain ⟨h1,h2⟩:=h.no rfl
  rw [h2,h1];simp [ins]
 ·rw [h.yes rfl];simp
end Po
theorem my (F:Heap) (v:Value) (l:List Po.S) (s:Po.S) (hn:l.length≤1000000) (hv:Po.SRow F v l) :
  Qz Tryz.prog 12 [.hs v l.length,.agg s.av] [hpB F] fun r m=>∃ w:Value,r.den=aw w∧Qw m [hpB F,⟨addrOf w,Po.savs (Po.ins s l),.row w 48 5 (Po.ins s l).length⟩]:=by
 have hok:=hv.ok
 obtain ⟨s0,s1,s2,s3,s4⟩:=s
 have hen:=fun out dn (h:Po.Putting ⟨s0,s1,s2,s3,s4⟩ l out dn l.length)=>h.end_
 generalize hI:Po.ins ⟨s0,s1,s2,s3,s4⟩ l=I at *
 simp only [Po.S.av]
 refine aB Tryz.func12 rfl (by decide) ?_
 repeat' first|(refine sxZ ?_;try clear hK K)|refine sxW ?_ ?_<;>intro _|(intro K hK _;conv=>whnf)
 refine aE (α:=Value × List Po.S × Bool × Nat) (fun (w,out,dn,i)=>Po.Putting ⟨s0,s1,s2,s3,s4⟩ l out dn i) (fun (w,out,dn,i)=>[.k,.k,.k,.k,.k,.set (.sl 2 w out.length),.set (.bool dn),.set (.int .i64 i),.d,.d,.d,.d,.d,.d,.d,.d,.d,.d,.d,.d,.d,.d,.d,.d,.d,.d,.d,.d,.d,.d,.d,.d,.d,.d,.d,.d,.d,.d,.d,.d,.d,.k,.k,.k,.k,.k,.k,.k]) (fun (w,out,dn,i)=>[.k,.k,.set ⟨addrOf w,Po.savs out,.row w 48 5 out.length⟩]) (fun (w,out,dn,i)=>l.length - i) (.slice none 0 0,[],false,0) (Po.Putting.zero _ _) ?_ ((Qw.nilRow _ 48 5).trans (Qw.congr rfl)) ?_
 ·exact aD
 (intro ⟨w,out,dn,i⟩ hp;intro K hK;(conv=>whnf);refine hK _ _ ?_;clear hK K)
 dsimp only
 have hp:Po.Putting ⟨s0,s1,s2,s3,s4⟩ l out dn i:=hp
 have hle:=hp.le
 have hol:=hp.len
 have hsl:=Po.savs_len out
 by_cases hlt:i<l.length
 ·have hx:l[i]?=some l[i]:=List.getElem?_eq_getElem hlt
  obtain ⟨g0,g1,g2,g3,g4⟩:=aI.get5 (f0:=fun s:Po.S=>.int .i64 s.port) (f1:=fun s=>.int .i64 s.p0) (f2:=fun s=>.int .i64 s.p1) (f3:=fun s=>.int .i64 s.p2) (f4:=fun s=>.int .i64 s.p3) hv hlt
  clear hen
  generalize l[i]=x at *
  obtain ⟨x0,x1,x2,x3,x4⟩:=x
  have ca:=nn ⟨s0,s1,s2,s3,s4⟩ ⟨x0,x1,x2,x3,x4⟩
  simp only [Po.S.av] at ca
  have hnx:∀ t:Po.S,Po.savs (out++[t])=Po.savs out++[.int .i64 t.port,.int .i64 t.p0,.int .i64 t.p1,.int .i64 t.p2,.int .i64 t.p3]:=Po.savs_next out
  have hnx2:∀ t u:Po.S,Po.savs (out++[t]++[u])=Po.savs out++[.int .i64 t.port,.int .i64 t.p0,.int .i64 t.p1,.int .i64 t.p2,.int .i64 t.p3]++[.int .i64 u.port,.int .i64 u.p0,.int .i64 u.p1,.int .i64 u.p2,.int .i64 u.p3]:=fun t u=>by rw [Po.savs_next,Po.savs_next]
  by_cases hxs:(⟨x0,x1,x2,x3,x4⟩:Po.S)=⟨s0,s1,s2,s3,s4⟩
  ·have hp2:Po.Putting ⟨s0,s1,s2,s3,s4⟩ l (out++[⟨x0,x1,x2,x3,x4⟩]) true (i+1):=by
    cases dn
    ·rw [hxs] at hx ⊢;exact hp.found hx
    ·exact hp.copy hx
   injection hxs with e0 e1 e2 e3 e4
   subst e0 e1 e2 e3 e4
   dsimp only at *
   repeat' first|((try intro K hK);(with_reducible refine gC ?_);refine cP ca ?_)|((first|intro A B hA hB|intro K hK|skip);first|((with_reducible refine NIf.yes ?s ?_);(case s=>simp ;done);conv=>whnf)|((with_reducible refine NIf.no ?s ?_);(case s=>simp ;done);conv=>whnf))|(refine aJ [] ?_;(try clear hK K);try clear hA hB A B)|refine sxW ?_ ?_<;>intro _|refine aK ?_ ?_|(intro K hK _;conv=>whnf)
   all_goals
    rename_i v9
    refine aC (v9,out++[⟨x0,x1,x2,x3,x4⟩],true,i+1) hp2 (by show l.length - (i+1)<l.length - i;omega) ?_ (Qw.pre 3 ?_)
    ·dsimp only
     rw [List.length_append]
     exact aD
    ·simp only [autoM,List.take,hnx,List.length_append]
     rfl
  ·have hnb:(decide (x0=s0)&&(decide (x1=s1)&&(decide (x2=s2)&&(decide (x3=s3)&&(decide (x4=s4)&&true)))))=false:=by
    refine Bool.eq_false_iff.2 fun h=>hxs ?_
    simp only [Bool.and_eq_true,decide_eq_true_eq,and_true] at h
    obtain ⟨rfl,rfl,rfl,rfl,rfl⟩:=h
    rfl
   dsimp only at *
   cases dn with
   | true =>
    have hp2:=hp.copy hx
    repeat' first|((try intro K hK);(with_reducible refine gC ?_);refine cP ca ?_)|((first|intro A B hA hB|intro K hK|skip);first|((with_reducible refine NIf.yes ?s ?_);(case s=>(rw [hnb];rfl));conv=>whnf)|((with_reducible refine NIf.no ?s ?_);(case s=>(rw [hnb];rfl));conv=>whnf))|(refine aJ [] ?_;(try clear hK K);try clear hA hB A B)|refine sxW ?_ ?_<;>intro _|refine aK ?_ ?_|(intro K hK _;conv=>whnf)
    all_goals
     rename_i v9
     refine aC (v9,out++[⟨x0,x1,x2,x3,x4⟩],true,i+1) hp2 (by show l.length - (i+1)<l.length - i;omega) ?_ (Qw.pre 3 ?_)
     ·dsimp only
      rw [List.length_append]
      exact aD
     ·simp only [autoM,List.take,hnx,List.length_append]
      rfl
   | false =>
    by_cases ha:Po.ahead ⟨s0,s1,s2,s3,s4⟩ ⟨x0,x1,x2,x3,x4⟩
    ·have hp2:=hp.here hx hxs ha
     rw [decide_eq_true ha] at ca
     clear ha hxs
     repeat' first|((try intro K hK);(with_reducible refine gC ?_);refine cP ca ?_)|((first|intro A B hA hB|intro K hK|skip);first|((with_reducible refine NIf.yes ?s ?_);(case s=>(rw [hnb];rfl));conv=>whnf)|((with_reducible refine NIf.no ?s ?_);(case s=>(rw [hnb];rfl));conv=>whnf))|(refine aJ [] ?_;(try clear hK K);try clear hA hB A B)|refine sxW ?_ ?_<;>intro _|refine aK ?_ ?_|(intro K hK _;conv=>whnf)
     all_goals
      rename_i v9
      refine aC (v9,out++[⟨s0,s1,s2,s3,s4⟩]++[⟨x0,x1,x2,x3,x4⟩],true,i+1) hp2 (by show l.length - (i+1)<l.length - i;omega) ?_ (Qw.pre 3 ?_)
      ·dsimp only
       rw [List.length_append,List.length_append]
       exact aD
      ·simp only [autoM,List.take,hnx2,List.length_append]
       rfl
    ·have hp2:=hp.past hx hxs ha
     rw [decide_eq_false ha] at ca
     clear ha hxs
     repeat' first|((try intro K hK);(with_reducible refine gC ?_);refine cP ca ?_)|((first|intro A B hA hB|intro K hK|skip);first|((with_reducible refine NIf.yes ?s ?_);(case s=>(rw [hnb];rfl));conv=>whnf)|((with_reducible refine NIf.no ?s ?_);(case s=>(rw [hnb];rfl));conv=>whnf))|(refine aJ [] ?_;(try clear hK K);try clear hA hB A B)|refine sxW ?_ ?_<;>intro _|refine aK ?_ ?_|(intro K hK _;conv=>whnf)
     all_goals
      rename_i v9
      refine aC (v9,out++[⟨x0,x1,x2,x3,x4⟩],false,i+1) hp2 (by show l.length - (i+1)<l.length - i;omega) ?_ (Qw.pre 3 ?_)
      ·dsimp only
       rw [List.length_append]
       exact aD
      ·simp only [autoM,List.take,hnx,List.length_append]
       rfl
 ·have hil:i=l.length:=by omega
  subst hil
  have he:=hen out dn hp
  clear hen
  cases dn with
  | true =>
   rw [if_pos rfl] at he
   subst he
   repeat' first|(refine sxZ ?_;try clear hK K)|refine sxW ?_ ?_<;>intro _|(intro K hK _;conv=>whnf)
   all_goals exact ⟨w,rfl,Qw.pick [0,2] (by decide) rfl⟩
  | false =>
   rw [if_neg (by decide)] at he
   rw [he,List.length_append,Po.savs_next]
   clear he hI
   repeat' first|(refine sxZ ?_;try clear hK K)|refine sxW ?_ ?_<;>intro _|(intro K hK _;conv=>whnf)
   all_goals
    rename_i v9
    exact ⟨v9,rfl,Qw.pick [0,2] (by decide) rfl⟩
theorem mC (F:Heap) (v:Value) (l:List Po.S) (s:Po.S) (hn:l.length≤1000000) (hv:Po.SRow F v l) :
  Qz Tryz.prog 12 [.hs v l.length,.agg s.av] [hpB F] fun r m=>∃ F' w,F.le F'∧Po.SRow F' w (Po.ins s l)∧r = .hs w (Po.ins s l).length∧m=[hpB F']:=dK (my F v l s hn hv)
end Go.Proofs.YtmehinfgdcmmjaaGreatDoor
