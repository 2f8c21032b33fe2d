import Derived.Test.YtmehinfgdcmmjaaGreatDoorJ17
import Derived.Test.YtmehinfgdcmmjaaGreatDoorJ16
import Derived.Test.YtmehinfgdcmmjaaGreatDoorJ3
namespace Go.Proofs.YtmehinfgdcmmjaaGreatDoor
open Go.Sx
set_option maxRecDepth 20000
set_option maxHeartbeats 4000000
set_option linter.unusedVariables false
end Go.Proofs.YtmehinfgdcmmjaaGreatDoor
namespace Go.Proofs.YtmehinfgdcmmjaaGreatDoor
open Go.Sx
set_option maxRecDepth 20000
set_option linter.unusedSimpArgs false
set_option linter.unusedVariables false
set_option maxHeartbeats 4000000
set_option linter.unusedVariables false
theorem reftop7_c (f:Int):NCall Tryz.prog 23 [.int .i64 f] [] fun r _=>r = .int .i64 (Po.ptop f):=by
 refine ncall_of Tryz.func23 rfl (by decide) ?_
 unfold Po.ptop
 by_cases h2:f=2
 ·subst h2
  repeat' first|(refine sxZ ?_;try clear hK K)|refine sxW ?_ ?_<;>intro _|(intro K hK _;(conv=>whnf))
  all_goals rfl
 rw [if_neg h2]
 by_cases h3:f=0∨f=1∨f=3
 ·rw [if_pos h3]
  rcases h3 with rfl | rfl | rfl
  all_goals (repeat' first|(refine sxZ ?_;try clear hK K)|refine sxW ?_ ?_<;>intro _|(intro K hK _;(conv=>whnf)))
  all_goals rfl
 ·rw [if_neg h3]
  repeat' first|(refine sxZ ?_;try clear hK K)|refine sxW ?_ ?_<;>intro _|(intro K hK _;(conv=>whnf))
  all_goals first | rfl | (exfalso;omega)
theorem ahead27_c (x y:Po.S):NCall Tryz.prog 32 [.agg x.av,.agg y.av] [] fun r _=>r = .bool (decide (Po.ahead x y)):=by
 have hd:∀ b:Prop,∀ _:Decidable b,(Po.ahead x y↔b)→AV.bool (decide b) = .bool (decide (Po.ahead x y)):=fun b _ h=>by congr 1;exact decide_eq_decide.2 h.symm
 have hF:¬ Po.ahead x y→AV.bool false = .bool (decide (Po.ahead x y)):=fun h=>by rw [decide_eq_false h]
 unfold Po.ahead at *
 obtain ⟨a0,a1,a2,a3,a4⟩:=x
 obtain ⟨b0,b1,b2,b3,b4⟩:=y
 dsimp only [Po.S.av] at *
 refine ncall_of Tryz.func32 rfl (by decide) ?_
 (repeat' (first|(refine sxA ?_;(first|clear hK K|skip);(first|clear hA hB A B|skip))|((with_reducible refine gNO ?_);(first|(refine z36 rfl (by kernel_rfl) ?_;intro K hK;(conv=>whnf))|(refine z37 rfl (by kernel_rfl) ?_;intro K hK;(conv=>whnf))|refine z38 rfl (by kernel_rfl) ?_|refine z39 rfl rfl (by kernel_rfl) (by intro h;cases h) ?_))|((with_reducible refine gNE ?_);(first|(refine z40 ?_ ?_;(intro K hK;(conv=>whnf)))|(refine z41 ?_ ?_;(intro K hK;(conv=>whnf)))|exact z42))|((with_reducible refine gX ?_);(first|refine z34 (by kernel_rfl) (by decide +kernel) ?_|refine z35 (by kernel_rfl) _ rfl ?_|(with_reducible refine st_rounds 6 ?_)))|(refine sxIA ?_;intro K hK;(conv=>whnf))|(refine sxCA ?_;intro A B hA hB;(conv=>whnf);((with_reducible refine NIf.dec (fun _=>?_) (fun _=>?_))<;>(conv=>whnf)))|(refine sxCA ?_;intro A B hA hB;(conv=>whnf))|((with_reducible first|refine NIf.dec (fun _=>?_) (fun _=>?_)|refine NIf.both (fun _=>?_) (fun _=>?_))<;>(conv=>whnf))|((intro _;skip)<;>(conv=>whnf))))
 all_goals first
  | (refine hd _ _ ?_;omega)
  | (refine hF ?_;omega)
  | (exfalso;omega)
namespace Po
structure Putting (s:S) (l out:List S) (dn:Bool) (i:Nat):Prop where
 le:i≤l.length
 yes:dn=true→ins s l=out++l.drop i
 no:dn=false→out=l.take i∧ins s l=l.take i++ins s (l.drop i)
 len:out.length≤i+1
theorem Putting.zero (s:S) (l:List S):Putting s l [] false 0:=⟨Nat.zero_le _,(fun h=>by cases h),fun _=>⟨rfl,rfl⟩,by simp⟩
theorem Putting.copy {s:S} {l out:List S} {i:Nat} {x:S} (h:Putting s l out true i) (hx:l[i]?=some x):Putting s l (out++[x]) true (i+1):=by
 obtain ⟨hlt,rfl⟩:=List.getElem?_eq_some_iff.1 hx
 refine ⟨hlt,fun _=>?_,(fun h=>by cases h),by have:=h.len;simp;omega⟩
 rw [h.yes rfl,List.drop_eq_getElem_cons hlt,List.append_assoc];rfl
theorem Putting.found {s:S} {l out:List S} {i:Nat} (h:Putting s l out false i) (hx:l[i]?=some s):Putting s l (out++[s]) true (i+1):=by
 obtain ⟨hlt,e⟩:=List.getElem?_eq_some_iff.1 hx
 obtain ⟨h1,h2⟩:=h.no rfl
 refine ⟨hlt,fun _=>?_,(fun h=>by cases h),by have:=h.len;simp;omega⟩
 rw [h2,h1,List.drop_eq_getElem_cons hlt,e,ins,if_pos rfl,List.append_assoc];rfl
theorem Putting.here {s:S} {l out:List S} {i:Nat} {x:S} (h:Putting s l out false i) (hx:l[i]?=some x) (hne:x≠s) (ha:ahead s x):Putting s l (out++[s]++[x]) true (i+1):=by
 obtain ⟨hlt,rfl⟩:=List.getElem?_eq_some_iff.1 hx
 obtain ⟨h1,h2⟩:=h.no rfl
 have hl:out.length=i:=by rw [h1,List.length_take];omega
 refine ⟨hlt,fun _=>?_,(fun h=>by cases h),by simp;omega⟩
 rw [h2,h1,List.drop_eq_getElem_cons hlt,ins,if_neg hne,if_pos ha];simp
theorem Putting.past {s:S} {l out:List S} {i:Nat} {x:S} (h:Putting s l out false i) (hx:l[i]?=some x) (hne:x≠s) (ha:¬ ahead s x):Putting s l (out++[x]) false (i+1):=by
 obtain ⟨hlt,rfl⟩:=List.getElem?_eq_some_iff.1 hx
 obtain ⟨h1,h2⟩:=h.no rfl
 refine ⟨hlt,(fun h=>by cases h),fun _=>?_,by have:=h.len;simp;omega⟩
 have e:l.take (i+1)=l.take i++[l[i]]:=by rw [List.take_add_one,List.getElem?_eq_getElem hlt];rfl
 refine ⟨by rw [h1,e],?_⟩
 rw [h2,e,List.drop_eq_getElem_cons hlt,ins,if_neg hne,if_neg ha,List.append_assoc];rfl
theorem Putting.end_ {s:S} {l out:List S} {dn:Bool} (h:Putting s l out dn l.length):ins s l=if dn then out else out++[s]:=by
 cases dn
 ·obtain ⟨h1,h2⟩:=h.no rfl
  rw [h2,h1];simp [ins]
 ·rw [h.yes rfl];simp
end Po
end Go.Proofs.YtmehinfgdcmmjaaGreatDoor
namespace Go.Proofs.YtmehinfgdcmmjaaGreatDoor
open Go.Sx
set_option maxRecDepth 20000
set_option linter.unusedSimpArgs false
set_option linter.unusedVariables false
set_option maxHeartbeats 4000000
set_option linter.unusedVariables false
theorem put27_raw (F:Heap) (v:Value) (l:List Po.S) (s:Po.S) (hn:l.length≤1000000) (hv:Po.SRow F v l) :
  NCall Tryz.prog 12 [.hs v l.length,.agg s.av] [hpB F] fun r m=>∃ w:Value,r.den=slOf w∧MemFits m [hpB F,⟨addrOf w,Po.savs (Po.ins s l),.row w 48 5 (Po.ins s l).length⟩]:=by
 have hok:=hv.ok
 obtain ⟨s0,s1,s2,s3,s4⟩:=s
 have hen:=fun out dn (h:Po.Putting ⟨s0,s1,s2,s3,s4⟩ l out dn l.length)=>h.end_
 generalize hI:Po.ins ⟨s0,s1,s2,s3,s4⟩ l=I at *
 simp only [Po.S.av]
 refine ncall_of Tryz.func12 rfl (by decide) ?_
 repeat' first|(refine sxZ ?_;try clear hK K)|refine sxW ?_ ?_<;>intro _|(intro K hK _;(conv=>whnf))
 refine st_auto (α:=Value × List Po.S × Bool × Nat) (fun (w,out,dn,i)=>Po.Putting ⟨s0,s1,s2,s3,s4⟩ l out dn i) (fun (w,out,dn,i)=>[.keep,.keep,.keep,.keep,.keep,.set (.sl 2 w out.length),.set (.bool dn),.set (.int .i64 i),.drop,.drop,.drop,.drop,.drop,.drop,.drop,.drop,.drop,.drop,.drop,.drop,.drop,.drop,.drop,.drop,.drop,.drop,.drop,.drop,.drop,.drop,.drop,.drop,.drop,.drop,.drop,.drop,.drop,.drop,.drop,.drop,.drop,.keep,.keep,.keep,.keep,.keep,.keep,.keep]) (fun (w,out,dn,i)=>[.keep,.keep,.set ⟨addrOf w,Po.savs out,.row w 48 5 out.length⟩]) (fun (w,out,dn,i)=>l.length - i) (.slice none 0 0,[],false,0) (Po.Putting.zero _ _) ?_ ((MemFits.nilRow _ 48 5).trans (MemFits.congr rfl)) ?_
 ·exact fitsGo
 (intro ⟨w,out,dn,i⟩ hp;intro K hK;(conv=>whnf);refine hK _ _ ?_;clear hK K)
 dsimp only
 have hp:Po.Putting ⟨s0,s1,s2,s3,s4⟩ l out dn i:=hp
 have hle:=hp.le
 have hol:=hp.len
 have hsl:=Po.savs_len out
 by_cases hlt:i<l.length
 ·have hx:l[i]?=some l[i]:=List.getElem?_eq_getElem hlt
  obtain ⟨g0,g1,g2,g3,g4⟩:=RowF.get5 (f0:=fun s:Po.S=>.int .i64 s.port) (f1:=fun s=>.int .i64 s.p0) (f2:=fun s=>.int .i64 s.p1) (f3:=fun s=>.int .i64 s.p2) (f4:=fun s=>.int .i64 s.p3) hv hlt
  clear hen
  generalize l[i]=x at *
  obtain ⟨x0,x1,x2,x3,x4⟩:=x
  have ca:=ahead27_c ⟨s0,s1,s2,s3,s4⟩ ⟨x0,x1,x2,x3,x4⟩
  simp only [Po.S.av] at ca
  have hnx:∀ t:Po.S,Po.savs (out++[t])=Po.savs out++[.int .i64 t.port,.int .i64 t.p0,.int .i64 t.p1,.int .i64 t.p2,.int .i64 t.p3]:=Po.savs_next out
  have hnx2:∀ t u:Po.S,Po.savs (out++[t]++[u])=Po.savs out++[.int .i64 t.port,.int .i64 t.p0,.int .i64 t.p1,.int .i64 t.p2,.int .i64 t.p3]++[.int .i64 u.port,.int .i64 u.p0,.int .i64 u.p1,.int .i64 u.p2,.int .i64 u.p3]:=fun t u=>by rw [Po.savs_next,Po.savs_next]
  by_cases hxs:(⟨x0,x1,x2,x3,x4⟩:Po.S)=⟨s0,s1,s2,s3,s4⟩
  ·have hp2:Po.Putting ⟨s0,s1,s2,s3,s4⟩ l (out++[⟨x0,x1,x2,x3,x4⟩]) true (i+1):=by
    cases dn
    ·rw [hxs] at hx ⊢;exact hp.found hx
    ·exact hp.copy hx
   injection hxs with e0 e1 e2 e3 e4
   subst e0 e1 e2 e3 e4
   dsimp only at *
   (repeat' (first|(((with_reducible refine gC ?_);refine NCall.pureE (ca) ?_)<;>(conv=>whnf))|(refine sxA ?_;(first|clear hK K|skip);(first|clear hA hB A B|skip))|((first|((with_reducible refine NIf.yes ?s ?_);case s=>(simp ;done))|((with_reducible refine NIf.no ?s ?_);case s=>(simp ;done)))<;>(conv=>whnf))|((with_reducible refine st_ordR1 ?s1 ?s2 ?s3 ?_);(case s1=>kernel_rfl);(case s2=>kernel_rfl);(case s3=>exact rfl);intro K hK;(conv=>whnf))|((with_reducible refine st_ordR1g ?s1 ?s2 ?s3 ?_);(case s1=>kernel_rfl);(case s2=>kernel_rfl);(case s3=>exact rfl);intro K hK;(conv=>whnf))|((with_reducible refine st_ordR2 ?s2 ?_);(case s2=>kernel_rfl);intro K hK;(conv=>whnf))|((with_reducible refine st_ordR2g ?s2 ?s3 ?_);(case s2=>kernel_rfl);(case s3=>exact rfl);intro K hK;(conv=>whnf))|((with_reducible refine st_ordR0 ?s2 ?_);(case s2=>kernel_rfl))|(with_reducible refine st_ordRout ?_)|((with_reducible refine gNOH ?_);(first|(refine st_ordH1 rfl (by kernel_rfl) rfl ?_;intro K hK;(conv=>whnf))|(refine st_ordH1g rfl (by kernel_rfl) rfl ?_;intro K hK;(conv=>whnf))|refine st_ordH0 rfl (by kernel_rfl) ?_|refine st_ordHA rfl rfl (by kernel_rfl) (by intro h;cases h) ?_))|((with_reducible refine gNEH ?_);(first|(refine st_eachH ?_ ?_;(intro K hK;(conv=>whnf)))|(refine st_eachHg rfl ?_ ?_;(intro K hK;(conv=>whnf)))|exact st_eachH0))|((with_reducible refine gX ?_);refine st_orderR rfl (by kernel_rfl) _ rfl ?_)|(refine sxIA ?_;intro K hK;(conv=>whnf))|(refine sxCA ?_;intro A B hA hB;(conv=>whnf))|((with_reducible first|refine NIf.dec (fun _=>?_) (fun _=>?_)|refine NIf.both (fun _=>?_) (fun _=>?_))<;>(conv=>whnf))|((intro _;skip)<;>(conv=>whnf))))
   all_goals
    rename_i v9
    refine st_round (v9,out++[⟨x0,x1,x2,x3,x4⟩],true,i+1) hp2 (by show l.length - (i+1)<l.length - i;omega) ?_ (MemFits.pre 3 ?_)
    ·dsimp only
     rw [List.length_append]
     exact fitsGo
    ·simp only [autoM,List.take,hnx,List.length_append]
     rfl
  ·have hnb:(decide (x0=s0)&&(decide (x1=s1)&&(decide (x2=s2)&&(decide (x3=s3)&&(decide (x4=s4)&&true)))))=false:=by
    refine Bool.eq_false_iff.2 fun h=>hxs ?_
    simp only [Bool.and_eq_true,decide_eq_true_eq,and_true] at h
    obtain ⟨rfl,rfl,rfl,rfl,rfl⟩:=h
    rfl
   dsimp only at *
   cases dn with
   | true =>
    have hp2:=hp.copy hx
    (repeat' (first|(((with_reducible refine gC ?_);refine NCall.pureE (ca) ?_)<;>(conv=>whnf))|(refine sxA ?_;(first|clear hK K|skip);(first|clear hA hB A B|skip))|((first|((with_reducible refine NIf.yes ?s ?_);case s=>(rw [hnb];rfl))|((with_reducible refine NIf.no ?s ?_);case s=>(rw [hnb];rfl)))<;>(conv=>whnf))|((with_reducible refine st_ordR1 ?s1 ?s2 ?s3 ?_);(case s1=>kernel_rfl);(case s2=>kernel_rfl);(case s3=>exact rfl);intro K hK;(conv=>whnf))|((with_reducible refine st_ordR1g ?s1 ?s2 ?s3 ?_);(case s1=>kernel_rfl);(case s2=>kernel_rfl);(case s3=>exact rfl);intro K hK;(conv=>whnf))|((with_reducible refine st_ordR2 ?s2 ?_);(case s2=>kernel_rfl);intro K hK;(conv=>whnf))|((with_reducible refine st_ordR2g ?s2 ?s3 ?_);(case s2=>kernel_rfl);(case s3=>exact rfl);intro K hK;(conv=>whnf))|((with_reducible refine st_ordR0 ?s2 ?_);(case s2=>kernel_rfl))|(with_reducible refine st_ordRout ?_)|((with_reducible refine gNOH ?_);(first|(refine st_ordH1 rfl (by kernel_rfl) rfl ?_;intro K hK;(conv=>whnf))|(refine st_ordH1g rfl (by kernel_rfl) rfl ?_;intro K hK;(conv=>whnf))|refine st_ordH0 rfl (by kernel_rfl) ?_|refine st_ordHA rfl rfl (by kernel_rfl) (by intro h;cases h) ?_))|((with_reducible refine gNEH ?_);(first|(refine st_eachH ?_ ?_;(intro K hK;(conv=>whnf)))|(refine st_eachHg rfl ?_ ?_;(intro K hK;(conv=>whnf)))|exact st_eachH0))|((with_reducible refine gX ?_);refine st_orderR rfl (by kernel_rfl) _ rfl ?_)|(refine sxIA ?_;intro K hK;(conv=>whnf))|(refine sxCA ?_;intro A B hA hB;(conv=>whnf))|((with_reducible first|refine NIf.dec (fun _=>?_) (fun _=>?_)|refine NIf.both (fun _=>?_) (fun _=>?_))<;>(conv=>whnf))|((intro _;skip)<;>(conv=>whnf))))
    all_goals
     rename_i v9
     refine st_round (v9,out++[⟨x0,x1,x2,x3,x4⟩],true,i+1) hp2 (by show l.length - (i+1)<l.length - i;omega) ?_ (MemFits.pre 3 ?_)
     ·dsimp only
      rw [List.length_append]
      exact fitsGo
     ·simp only [autoM,List.take,hnx,List.length_append]
      rfl
   | false =>
    by_cases ha:Po.ahead ⟨s0,s1,s2,s3,s4⟩ ⟨x0,x1,x2,x3,x4⟩
    ·have hp2:=hp.here hx hxs ha
     rw [decide_eq_true ha] at ca
     clear ha hxs
     (repeat' (first|(((with_reducible refine gC ?_);refine NCall.pureE (ca) ?_)<;>(conv=>whnf))|(refine sxA ?_;(first|clear hK K|skip);(first|clear hA hB A B|skip))|((first|((with_reducible refine NIf.yes ?s ?_);case s=>(rw [hnb];rfl))|((with_reducible refine NIf.no ?s ?_);case s=>(rw [hnb];rfl)))<;>(conv=>whnf))|((with_reducible refine st_ordR1 ?s1 ?s2 ?s3 ?_);(case s1=>kernel_rfl);(case s2=>kernel_rfl);(case s3=>exact rfl);intro K hK;(conv=>whnf))|((with_reducible refine st_ordR1g ?s1 ?s2 ?s3 ?_);(case s1=>kernel_rfl);(case s2=>kernel_rfl);(case s3=>exact rfl);intro K hK;(conv=>whnf))|((with_reducible refine st_ordR2 ?s2 ?_);(case s2=>kernel_rfl);intro K hK;(conv=>whnf))|((with_reducible refine st_ordR2g ?s2 ?s3 ?_);(case s2=>kernel_rfl);(case s3=>exact rfl);intro K hK;(conv=>whnf))|((with_reducible refine st_ordR0 ?s2 ?_);(case s2=>kernel_rfl))|(with_reducible refine st_ordRout ?_)|((with_reducible refine gNOH ?_);(first|(refine st_ordH1 rfl (by kernel_rfl) rfl ?_;intro K hK;(conv=>whnf))|(refine st_ordH1g rfl (by kernel_rfl) rfl ?_;intro K hK;(conv=>whnf))|refine st_ordH0 rfl (by kernel_rfl) ?_|refine st_ordHA rfl rfl (by kernel_rfl) (by intro h;cases h) ?_))|((with_reducible refine gNEH ?_);(first|(refine st_eachH ?_ ?_;(intro K hK;(conv=>whnf)))|(refine st_eachHg rfl ?_ ?_;(intro K hK;(conv=>whnf)))|exact st_eachH0))|((with_reducible refine gX ?_);refine st_orderR rfl (by kernel_rfl) _ rfl ?_)|(refine sxIA ?_;intro K hK;(conv=>whnf))|(refine sxCA ?_;intro A B hA hB;(conv=>whnf))|((with_reducible first|refine NIf.dec (fun _=>?_) (fun _=>?_)|refine NIf.both (fun _=>?_) (fun _=>?_))<;>(conv=>whnf))|((intro _;skip)<;>(conv=>whnf))))
     all_goals
      rename_i v9
      refine st_round (v9,out++[⟨s0,s1,s2,s3,s4⟩]++[⟨x0,x1,x2,x3,x4⟩],true,i+1) hp2 (by show l.length - (i+1)<l.length - i;omega) ?_ (MemFits.pre 3 ?_)
      ·dsimp only
       rw [List.length_append,List.length_append]
       exact fitsGo
      ·simp only [autoM,List.take,hnx2,List.length_append]
       rfl
    ·have hp2:=hp.past hx hxs ha
     rw [decide_eq_false ha] at ca
     clear ha hxs
     (repeat' (first|(((with_reducible refine gC ?_);refine NCall.pureE (ca) ?_)<;>(conv=>whnf))|(refine sxA ?_;(first|clear hK K|skip);(first|clear hA hB A B|skip))|((first|((with_reducible refine NIf.yes ?s ?_);case s=>(rw [hnb];rfl))|((with_reducible refine NIf.no ?s ?_);case s=>(rw [hnb];rfl)))<;>(conv=>whnf))|((with_reducible refine st_ordR1 ?s1 ?s2 ?s3 ?_);(case s1=>kernel_rfl);(case s2=>kernel_rfl);(case s3=>exact rfl);intro K hK;(conv=>whnf))|((with_reducible refine st_ordR1g ?s1 ?s2 ?s3 ?_);(case s1=>kernel_rfl);(case s2=>kernel_rfl);(case s3=>exact rfl);intro K hK;(conv=>whnf))|((with_reducible refine st_ordR2 ?s2 ?_);(case s2=>kernel_rfl);intro K hK;(conv=>whnf))|((with_reducible refine st_ordR2g ?s2 ?s3 ?_);(case s2=>kernel_rfl);(case s3=>exact rfl);intro K hK;(conv=>whnf))|((with_reducible refine st_ordR0 ?s2 ?_);(case s2=>kernel_rfl))|(with_reducible refine st_ordRout ?_)|((with_reducible refine gNOH ?_);(first|(refine st_ordH1 rfl (by kernel_rfl) rfl ?_;intro K hK;(conv=>whnf))|(refine st_ordH1g rfl (by kernel_rfl) rfl ?_;intro K hK;(conv=>whnf))|refine st_ordH0 rfl (by kernel_rfl) ?_|refine st_ordHA rfl rfl (by kernel_rfl) (by intro h;cases h) ?_))|((with_reducible refine gNEH ?_);(first|(refine st_eachH ?_ ?_;(intro K hK;(conv=>whnf)))|(refine st_eachHg rfl ?_ ?_;(intro K hK;(conv=>whnf)))|exact st_eachH0))|((with_reducible refine gX ?_);refine st_orderR rfl (by kernel_rfl) _ rfl ?_)|(refine sxIA ?_;intro K hK;(conv=>whnf))|(refine sxCA ?_;intro A B hA hB;(conv=>whnf))|((with_reducible first|refine NIf.dec (fun _=>?_) (fun _=>?_)|refine NIf.both (fun _=>?_) (fun _=>?_))<;>(conv=>whnf))|((intro _;skip)<;>(conv=>whnf))))
     all_goals
      rename_i v9
      refine st_round (v9,out++[⟨x0,x1,x2,x3,x4⟩],false,i+1) hp2 (by show l.length - (i+1)<l.length - i;omega) ?_ (MemFits.pre 3 ?_)
      ·dsimp only
       rw [List.length_append]
       exact fitsGo
      ·simp only [autoM,List.take,hnx,List.length_append]
       rfl
 ·have hil:i=l.length:=by omega
  subst hil
  have he:=hen out dn hp
  clear hen
  cases dn with
  | true =>
   rw [if_pos rfl] at he
   subst he
   repeat' first|(refine sxZ ?_;try clear hK K)|refine sxW ?_ ?_<;>intro _|(intro K hK _;(conv=>whnf))
   all_goals exact ⟨w,rfl,MemFits.pick [0,2] (by decide) rfl⟩
  | false =>
   rw [if_neg (by decide)] at he
   rw [he,List.length_append,Po.savs_next]
   clear he hI
   repeat' first|(refine sxZ ?_;try clear hK K)|refine sxW ?_ ?_<;>intro _|(intro K hK _;(conv=>whnf))
   all_goals
    rename_i v9
    exact ⟨v9,rfl,MemFits.pick [0,2] (by decide) rfl⟩
theorem put27_c (F:Heap) (v:Value) (l:List Po.S) (s:Po.S) (hn:l.length≤1000000) (hv:Po.SRow F v l) :
  NCall Tryz.prog 12 [.hs v l.length,.agg s.av] [hpB F] fun r m=>∃ F' w,F.le F'∧Po.SRow F' w (Po.ins s l)∧r = .hs w (Po.ins s l).length∧m=[hpB F']:=sents_know (put27_raw F v l s hn hv)
end Go.Proofs.YtmehinfgdcmmjaaGreatDoor
namespace Go.Proofs.YtmehinfgdcmmjaaGreatDoor
open Go.Sx
set_option maxRecDepth 20000
set_option linter.unusedVariables false
namespace Po
theorem both_take (a:List S) {b:List S} {k:Nat} (h:k<b.length):both a (b.take (k+1))=ins b[k] (both a (b.take k)):=by
 unfold both
 rw [List.take_add_one,List.getElem?_eq_getElem h,Option.toList_some,List.foldl_append];rfl
end Po
end Go.Proofs.YtmehinfgdcmmjaaGreatDoor
