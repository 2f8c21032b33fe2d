import Derived.Test.YtmehinfgdcmmjaaGreatDoorJ18
import Derived.Test.YtmehinfgdcmmjaaGreatDoorJ26
namespace Go.Proofs.YtmehinfgdcmmjaaGreatDoor
open Go.Sx
set_option maxRecDepth 20000
set_option linter.unusedSimpArgs false
set_option linter.unusedVariables false
set_option maxHeartbeats 4000000
set_option linter.unusedVariables false
section
variable (F:Heap)
theorem fits27_4 (pk pf pv:Int) (pl:List Pd.T) (f v:Int) (l:List Po.T) (pu u:Value) (tp:Int) (nb rb:Bool) (htp:Pd.top f=tp) (hnb:Pd.same (.mk pk pf pv pl) Po.noneP=nb) (hrb:Pd.right (.mk pk pf pv pl)=rb) (hu:Po.Row F u l) (hok:SlOk u l.length) (hpok:SlOk pu pl.length) (hln:l.length≤4611686018427387904)
  (ih:∀ x∈l,∀ pA A,Po.At F x pA A→NCall Tryz.prog 18 [.agg (Po.cs x pA A)] [hpB F] fun r m=>r = .bool (Po.fits x)∧m=[hpB F])
  (ct:NCall Tryz.prog 45 [.int .i64 f] [] fun r _=>r = .int .i64 tp)
  (cr:NCall Tryz.prog 43 [.agg [.int .i64 pk,.int .i64 pf,.int .i64 pv,.hs pu pl.length]] [hpB F] fun r m=>r = .bool rb∧m=[hpB F])
  (cn:NCall Tryz.prog 44 [.agg [.int .i64 pk,.int .i64 pf,.int .i64 pv,.hs pu pl.length],.agg [.int .i64 0,.int .i64 0,.int .i64 0,.hs (.slice none 0 0) 0]] [hpB F] fun r m=>r = .bool nb∧m=[hpB F]) :
  NCall Tryz.prog 18 [.agg [.int .i64 4,.int .i64 pk,.int .i64 pf,.int .i64 pv,.hs pu pl.length,.int .i64 f,.int .i64 v,.hs u l.length]] [hpB F] fun r m=>r = .bool (Po.shape 4 (.mk pk pf pv pl) f v l.length&&Po.fitsL l)∧MemFits m [hpB F]:=by
 have hfl:=Po.fitsL_iff l
 have hsh:Po.shape 4 (.mk pk pf pv pl) f v l.length=decide ((4:Int)=1∧rb=true∧(f=0∧v=0)∧l.length=0∨(4:Int)=2∧nb=true∧(0≤f∧f≤4)∧(0≤v∧v≤tp)∧l.length=0∨((4:Int)=3∨(4:Int)=4)∧nb=true∧(f=0∧v=0)∧2≤l.length∧l.length≤8∨(4:Int)=5∧rb=true∧(f=0∧v=0)∧l.length=2):=by rw [← htp,← hnb,← hrb];rfl
 clear htp hnb hrb
 refine ncall_of Tryz.func18 rfl (by decide) ?_
 cases nb
 ·rw [show Po.shape 4 (.mk pk pf pv pl) f v l.length=false by rw [hsh];exact decide_eq_false (fun h=>by
   rcases h with ⟨a1,a2,a3⟩ | ⟨a1,a2,a3⟩ | ⟨a1,a2,a3⟩ | ⟨a1,a2,a3⟩<;>first | (cases a2;done) | omega)]
  clear hsh hfl ih
  rw [Bool.false_and]
  by_cases hq0:f=0∧v=0
  iterate 2
   ·repeat' first|((try intro K hK);(with_reducible refine gC ?_);first|refine cS [0] cr ?_|refine cS [0] cn ?_|refine cP ct ?_)|((first|intro A B hA hB|intro K hK|skip);first|((with_reducible refine NIf.yes ?s ?_);(case s=>simp ;done);(conv=>whnf))|((with_reducible refine NIf.no ?s ?_);(case s=>simp ;done);(conv=>whnf)))|(refine sxZK [] ?_;(try clear hK K);try clear hA hB A B)|refine sxW ?_ ?_<;>intro _|refine sxVK ?_ ?_|(intro K hK _;(conv=>whnf))
    all_goals first
     | exact ⟨rfl,MemFits.pre 1 rfl⟩
     | (exfalso;omega)
 ·by_cases hq:(f=0∧v=0)∧2≤l.length∧l.length≤8
  ·rw [show Po.shape 4 (.mk pk pf pv pl) f v l.length=true by rw [hsh];exact decide_eq_true (.inr (.inr (.inl ⟨.inr rfl,rfl,hq.1,hq.2.1,hq.2.2⟩)))]
   clear hsh
   rw [Bool.true_and]
   repeat' first|((try intro K hK);(with_reducible refine gC ?_);first|refine cS [0] cr ?_|refine cS [0] cn ?_|refine cP ct ?_)|((first|intro A B hA hB|intro K hK|skip);first|((with_reducible refine NIf.yes ?s ?_);(case s=>simp ;done);(conv=>whnf))|((with_reducible refine NIf.no ?s ?_);(case s=>simp ;done);(conv=>whnf)))|(refine sxZK [] ?_;(try clear hK K);try clear hA hB A B)|refine sxW ?_ ?_<;>intro _|refine sxVK ?_ ?_|(intro K hK _;(conv=>whnf))
   all_goals try (exfalso;omega)
   all_goals
    refine st_auto (α:=Nat) (fun i=>i≤l.length∧∀ (j:Nat) (x:Po.T),j<i→l[j]?=some x→Po.fits x=true) (fun i=>[.keep,.keep,.drop,.keep,.keep,.set (.int .i64 i),.keep,.keep,.keep,.keep,.keep,.keep,.keep,.keep,.keep,.keep,.keep,.keep,.keep,.keep,.keep,.keep,.keep,.keep,.keep,.keep,.keep,.keep,.keep,.keep,.keep,.keep,.keep,.keep,.keep,.keep,.keep,.keep,.keep,.keep,.keep,.keep,.keep,.keep,.keep,.keep,.keep,.keep,.keep,.keep,.keep,.keep,.keep,.keep,.keep,.keep,.keep,.keep,.keep,.keep,.keep,.keep,.keep,.keep,.keep,.keep,.keep,.keep,.keep,.keep,.keep,.keep,.keep,.keep,.keep,.keep,.keep,.keep,.keep,.keep,.keep,.keep,.keep,.keep,.keep,.keep,.keep,.keep,.keep,.keep,.keep,.keep,.keep,.keep,.keep,.keep,.keep,.keep,.keep,.keep,.keep,.keep,.keep,.keep,.keep,.keep,.keep,.keep,.keep,.keep,.keep,.keep,.keep,.keep,.keep,.keep,.keep,.keep,.drop,.drop,.drop,.drop,.drop,.drop,.drop,.drop,.drop,.drop,.drop,.drop]) (fun _=>[]) (fun i=>l.length - i) 0 ⟨Nat.zero_le _,fun j x hj=>absurd hj (Nat.not_lt_zero _)⟩ ?_ (MemFits.eq rfl) ?_
    ·exact fitsGo
    (intro i ⟨hi,hgone⟩;intro K hK;(conv=>whnf);refine hK _ _ ?_;clear hK K)
    by_cases hlt:i<l.length
    ·have hx:l[i]?=some l[i]:=List.getElem?_eq_getElem hlt
     obtain ⟨pA,pcap,A,cap,hA,c0,c1,c2,c3,c4,c5,c6,c7⟩:=hu.get hx
     have hAo:=hA.l.ok
     have hAp:=hA.p.ok
     have hmem:=List.mem_of_getElem? hx
     have c:=ih _ hmem _ _ hA
     clear ih
     have hbad:Po.fits l[i]=false→Po.fitsL l=false:=fun hb=>by
      cases h:Po.fitsL l with
      | false=>rfl
      | true=>have:=hfl.1 h _ hmem;rw [hb] at this;cases this
     have hgood0:Po.fits l[i]=true→∀ (j:Nat) (x:Po.T),j<i+1→l[j]?=some x→Po.fits x=true:=fun hg j y hj hy=>by
      by_cases e:j=i
      ·subst e
       rw [hx] at hy
       injection hy with hy
       rw [← hy];exact hg
      ·exact hgone j y (by omega) hy
     clear hgone hfl
     cases hq:Po.fits l[i] with
     | true =>
      rw [hq] at c
      have hgood:=hgood0 hq
      clear hbad hq hgood0
      generalize l[i]=y at *
      obtain ⟨yk,⟨ypk,ypf,ypv,ypl⟩,yf,yv,yl⟩:=y
      simp only [Po.cs,Po.T.k,Po.T.p,Po.T.f,Po.T.v,Po.T.l,Pd.T.k,Pd.T.f,Pd.T.v,Pd.T.l] at c c0 c1 c2 c3 c4 c5 c6 c7 hAo hAp
      repeat' first|(intro K hK;(with_reducible refine gC ?_);refine cS [0] c ?_)|(refine sxZ ?_;try clear hK K)|refine sxW ?_ ?_<;>intro _|(intro K hK _;(conv=>whnf))
      refine st_round (i+1) ⟨hlt,hgood⟩ (by omega) ?_ (MemFits.eq rfl)
      exact fitsGo
     | false =>
      rw [hq] at c
      rw [hbad hq]
      clear hbad hgood0 hq
      generalize l[i]=y at *
      obtain ⟨yk,⟨ypk,ypf,ypv,ypl⟩,yf,yv,yl⟩:=y
      simp only [Po.cs,Po.T.k,Po.T.p,Po.T.f,Po.T.v,Po.T.l,Pd.T.k,Pd.T.f,Pd.T.v,Pd.T.l] at c c0 c1 c2 c3 c4 c5 c6 c7 hAo hAp
      repeat' first|(intro K hK;(with_reducible refine gC ?_);refine cS [0] c ?_)|(refine sxZ ?_;try clear hK K)|refine sxW ?_ ?_<;>intro _|(intro K hK _;(conv=>whnf))
      all_goals exact ⟨rfl,MemFits.pre 1 rfl⟩
    ·have hyl:Po.fitsL l=true:=hfl.2 fun x hx=>by
      obtain ⟨j,hj,e⟩:=List.getElem_of_mem hx
      exact hgone j x (by omega) (by rw [← e];exact List.getElem?_eq_getElem hj)
     rw [hyl]
     clear ih hfl hgone
     repeat' first|(refine sxZ ?_;try clear hK K)|refine sxW ?_ ?_<;>intro _|(intro K hK _;(conv=>whnf))
     all_goals exact ⟨rfl,MemFits.pre 1 rfl⟩
  ·rw [show Po.shape 4 (.mk pk pf pv pl) f v l.length=false by rw [hsh];exact decide_eq_false (fun h=>by
    rcases h with ⟨a1,a2,a3⟩ | ⟨a1,a2,a3⟩ | ⟨a1,a2,a3⟩ | ⟨a1,a2,a3⟩<;>first | omega | (clear a2;exact hq (by omega)))]
   clear hsh hfl ih
   rw [Bool.false_and]
   repeat' first|((try intro K hK);(with_reducible refine gC ?_);first|refine cS [0] cr ?_|refine cS [0] cn ?_|refine cP ct ?_)|((first|intro A B hA hB|intro K hK|skip);first|((with_reducible refine NIf.yes ?s ?_);(case s=>simp ;done);(conv=>whnf))|((with_reducible refine NIf.no ?s ?_);(case s=>simp ;done);(conv=>whnf)))|(refine sxZK [] ?_;(try clear hK K);try clear hA hB A B)|refine sxW ?_ ?_<;>intro _|refine sxVK ?_ ?_|(intro K hK _;(conv=>whnf))
   all_goals first
    | exact ⟨rfl,MemFits.pre 1 rfl⟩
    | (exfalso;omega)
end
end Go.Proofs.YtmehinfgdcmmjaaGreatDoor
namespace Go.Proofs.YtmehinfgdcmmjaaGreatDoor
open Go.Sx
set_option maxRecDepth 20000
set_option linter.unusedSimpArgs false
set_option linter.unusedVariables false
set_option maxHeartbeats 4000000
set_option linter.unusedVariables false
section
variable (F:Heap)
theorem fits27_5 (pk pf pv:Int) (pl:List Pd.T) (f v:Int) (l:List Po.T) (pu u:Value) (tp:Int) (nb rb:Bool) (htp:Pd.top f=tp) (hnb:Pd.same (.mk pk pf pv pl) Po.noneP=nb) (hrb:Pd.right (.mk pk pf pv pl)=rb) (hu:Po.Row F u l) (hok:SlOk u l.length) (hpok:SlOk pu pl.length) (hln:l.length≤4611686018427387904)
  (ih:∀ x∈l,∀ pA A,Po.At F x pA A→NCall Tryz.prog 18 [.agg (Po.cs x pA A)] [hpB F] fun r m=>r = .bool (Po.fits x)∧m=[hpB F])
  (ct:NCall Tryz.prog 45 [.int .i64 f] [] fun r _=>r = .int .i64 tp)
  (cr:NCall Tryz.prog 43 [.agg [.int .i64 pk,.int .i64 pf,.int .i64 pv,.hs pu pl.length]] [hpB F] fun r m=>r = .bool rb∧m=[hpB F])
  (cn:NCall Tryz.prog 44 [.agg [.int .i64 pk,.int .i64 pf,.int .i64 pv,.hs pu pl.length],.agg [.int .i64 0,.int .i64 0,.int .i64 0,.hs (.slice none 0 0) 0]] [hpB F] fun r m=>r = .bool nb∧m=[hpB F]) :
  NCall Tryz.prog 18 [.agg [.int .i64 5,.int .i64 pk,.int .i64 pf,.int .i64 pv,.hs pu pl.length,.int .i64 f,.int .i64 v,.hs u l.length]] [hpB F] fun r m=>r = .bool (Po.shape 5 (.mk pk pf pv pl) f v l.length&&Po.fitsL l)∧MemFits m [hpB F]:=by
 have hfl:=Po.fitsL_iff l
 have hsh:Po.shape 5 (.mk pk pf pv pl) f v l.length=decide ((5:Int)=1∧rb=true∧(f=0∧v=0)∧l.length=0∨(5:Int)=2∧nb=true∧(0≤f∧f≤4)∧(0≤v∧v≤tp)∧l.length=0∨((5:Int)=3∨(5:Int)=4)∧nb=true∧(f=0∧v=0)∧2≤l.length∧l.length≤8∨(5:Int)=5∧rb=true∧(f=0∧v=0)∧l.length=2):=by rw [← htp,← hnb,← hrb];rfl
 clear htp hnb hrb
 refine ncall_of Tryz.func18 rfl (by decide) ?_
 cases rb
 ·rw [show Po.shape 5 (.mk pk pf pv pl) f v l.length=false by rw [hsh];exact decide_eq_false (fun h=>by
   rcases h with ⟨a1,a2,a3⟩ | ⟨a1,a2,a3⟩ | ⟨a1,a2,a3⟩ | ⟨a1,a2,a3⟩<;>first | (cases a2;done) | omega)]
  clear hsh hfl ih
  rw [Bool.false_and]
  by_cases hq0:f=0∧v=0
  iterate 2
   ·repeat' first|((try intro K hK);(with_reducible refine gC ?_);first|refine cS [0] cr ?_|refine cS [0] cn ?_|refine cP ct ?_)|((first|intro A B hA hB|intro K hK|skip);first|((with_reducible refine NIf.yes ?s ?_);(case s=>simp ;done);(conv=>whnf))|((with_reducible refine NIf.no ?s ?_);(case s=>simp ;done);(conv=>whnf)))|(refine sxZK [] ?_;(try clear hK K);try clear hA hB A B)|refine sxW ?_ ?_<;>intro _|refine sxVK ?_ ?_|(intro K hK _;(conv=>whnf))
    all_goals first
     | exact ⟨rfl,MemFits.pre 1 rfl⟩
     | (exfalso;omega)
 ·by_cases hq:(f=0∧v=0)∧l.length=2
  ·rw [show Po.shape 5 (.mk pk pf pv pl) f v l.length=true by rw [hsh];exact decide_eq_true (.inr (.inr (.inr ⟨rfl,rfl,hq.1,hq.2⟩)))]
   clear hsh
   rw [Bool.true_and]
   repeat' first|((try intro K hK);(with_reducible refine gC ?_);first|refine cS [0] cr ?_|refine cS [0] cn ?_|refine cP ct ?_)|((first|intro A B hA hB|intro K hK|skip);first|((with_reducible refine NIf.yes ?s ?_);(case s=>simp ;done);(conv=>whnf))|((with_reducible refine NIf.no ?s ?_);(case s=>simp ;done);(conv=>whnf)))|(refine sxZK [] ?_;(try clear hK K);try clear hA hB A B)|refine sxW ?_ ?_<;>intro _|refine sxVK ?_ ?_|(intro K hK _;(conv=>whnf))
   all_goals try (exfalso;omega)
   all_goals
    refine st_auto (α:=Nat) (fun i=>i≤l.length∧∀ (j:Nat) (x:Po.T),j<i→l[j]?=some x→Po.fits x=true) (fun i=>[.keep,.keep,.drop,.keep,.keep,.set (.int .i64 i),.keep,.keep,.keep,.keep,.keep,.keep,.keep,.keep,.keep,.keep,.keep,.keep,.keep,.keep,.keep,.keep,.keep,.keep,.keep,.keep,.keep,.keep,.keep,.keep,.keep,.keep,.keep,.keep,.keep,.keep,.keep,.keep,.keep,.keep,.keep,.keep,.keep,.keep,.keep,.keep,.keep,.keep,.keep,.keep,.keep,.keep,.keep,.keep,.keep,.keep,.keep,.keep,.keep,.keep,.keep,.keep,.keep,.keep,.keep,.keep,.keep,.keep,.keep,.keep,.keep,.keep,.keep,.keep,.keep,.keep,.keep,.keep,.keep,.keep,.keep,.keep,.keep,.keep,.keep,.keep,.keep,.keep,.keep,.keep,.keep,.keep,.keep,.keep,.keep,.keep,.keep,.keep,.keep,.keep,.keep,.keep,.keep,.keep,.keep,.keep,.keep,.keep,.keep,.keep,.keep,.keep,.keep,.keep,.keep,.keep,.keep,.keep,.drop,.drop,.drop,.drop,.drop,.drop,.drop,.drop,.drop,.drop,.drop,.drop]) (fun _=>[]) (fun i=>l.length - i) 0 ⟨Nat.zero_le _,fun j x hj=>absurd hj (Nat.not_lt_zero _)⟩ ?_ (MemFits.eq rfl) ?_
    ·exact fitsGo
    (intro i ⟨hi,hgone⟩;intro K hK;(conv=>whnf);refine hK _ _ ?_;clear hK K)
    by_cases hlt:i<l.length
    ·have hx:l[i]?=some l[i]:=List.getElem?_eq_getElem hlt
     obtain ⟨pA,pcap,A,cap,hA,c0,c1,c2,c3,c4,c5,c6,c7⟩:=hu.get hx
     have hAo:=hA.l.ok
     have hAp:=hA.p.ok
     have hmem:=List.mem_of_getElem? hx
     have c:=ih _ hmem _ _ hA
     clear ih
     have hbad:Po.fits l[i]=false→Po.fitsL l=false:=fun hb=>by
      cases h:Po.fitsL l with
      | false=>rfl
      | true=>have:=hfl.1 h _ hmem;rw [hb] at this;cases this
     have hgood0:Po.fits l[i]=true→∀ (j:Nat) (x:Po.T),j<i+1→l[j]?=some x→Po.fits x=true:=fun hg j y hj hy=>by
      by_cases e:j=i
      ·subst e
       rw [hx] at hy
       injection hy with hy
       rw [← hy];exact hg
      ·exact hgone j y (by omega) hy
     clear hgone hfl
     cases hq:Po.fits l[i] with
     | true =>
      rw [hq] at c
      have hgood:=hgood0 hq
      clear hbad hq hgood0
      generalize l[i]=y at *
      obtain ⟨yk,⟨ypk,ypf,ypv,ypl⟩,yf,yv,yl⟩:=y
      simp only [Po.cs,Po.T.k,Po.T.p,Po.T.f,Po.T.v,Po.T.l,Pd.T.k,Pd.T.f,Pd.T.v,Pd.T.l] at c c0 c1 c2 c3 c4 c5 c6 c7 hAo hAp
      repeat' first|(intro K hK;(with_reducible refine gC ?_);refine cS [0] c ?_)|(refine sxZ ?_;try clear hK K)|refine sxW ?_ ?_<;>intro _|(intro K hK _;(conv=>whnf))
      refine st_round (i+1) ⟨hlt,hgood⟩ (by omega) ?_ (MemFits.eq rfl)
      exact fitsGo
     | false =>
      rw [hq] at c
      rw [hbad hq]
      clear hbad hgood0 hq
      generalize l[i]=y at *
      obtain ⟨yk,⟨ypk,ypf,ypv,ypl⟩,yf,yv,yl⟩:=y
      simp only [Po.cs,Po.T.k,Po.T.p,Po.T.f,Po.T.v,Po.T.l,Pd.T.k,Pd.T.f,Pd.T.v,Pd.T.l] at c c0 c1 c2 c3 c4 c5 c6 c7 hAo hAp
      repeat' first|(intro K hK;(with_reducible refine gC ?_);refine cS [0] c ?_)|(refine sxZ ?_;try clear hK K)|refine sxW ?_ ?_<;>intro _|(intro K hK _;(conv=>whnf))
      all_goals exact ⟨rfl,MemFits.pre 1 rfl⟩
    ·have hyl:Po.fitsL l=true:=hfl.2 fun x hx=>by
      obtain ⟨j,hj,e⟩:=List.getElem_of_mem hx
      exact hgone j x (by omega) (by rw [← e];exact List.getElem?_eq_getElem hj)
     rw [hyl]
     clear ih hfl hgone
     repeat' first|(refine sxZ ?_;try clear hK K)|refine sxW ?_ ?_<;>intro _|(intro K hK _;(conv=>whnf))
     all_goals exact ⟨rfl,MemFits.pre 1 rfl⟩
  ·rw [show Po.shape 5 (.mk pk pf pv pl) f v l.length=false by rw [hsh];exact decide_eq_false (fun h=>by
    rcases h with ⟨a1,a2,a3⟩ | ⟨a1,a2,a3⟩ | ⟨a1,a2,a3⟩ | ⟨a1,a2,a3⟩<;>first | omega | (clear a2;exact hq (by omega)))]
   clear hsh hfl ih
   rw [Bool.false_and]
   repeat' first|((try intro K hK);(with_reducible refine gC ?_);first|refine cS [0] cr ?_|refine cS [0] cn ?_|refine cP ct ?_)|((first|intro A B hA hB|intro K hK|skip);first|((with_reducible refine NIf.yes ?s ?_);(case s=>simp ;done);(conv=>whnf))|((with_reducible refine NIf.no ?s ?_);(case s=>simp ;done);(conv=>whnf)))|(refine sxZK [] ?_;(try clear hK K);try clear hA hB A B)|refine sxW ?_ ?_<;>intro _|refine sxVK ?_ ?_|(intro K hK _;(conv=>whnf))
   all_goals first
    | exact ⟨rfl,MemFits.pre 1 rfl⟩
    | (exfalso;omega)
end
end Go.Proofs.YtmehinfgdcmmjaaGreatDoor
namespace Go.Proofs.YtmehinfgdcmmjaaGreatDoor
open Go.Sx
set_option maxRecDepth 20000
set_option linter.unusedSimpArgs false
set_option linter.unusedVariables false
set_option maxHeartbeats 4000000
set_option linter.unusedVariables false
section
variable (F:Heap)
theorem fits27_z (k:Int) (hk:¬ (k=1∨k=2∨k=3∨k=4∨k=5)) (pk pf pv:Int) (pl:List Pd.T) (f v:Int) (l:List Po.T) (pu u:Value) (tp:Int) (nb rb:Bool) (htp:Pd.top f=tp) (hnb:Pd.same (.mk pk pf pv pl) Po.noneP=nb) (hrb:Pd.right (.mk pk pf pv pl)=rb) (hu:Po.Row F u l) (hok:SlOk u l.length) (hpok:SlOk pu pl.length) (hln:l.length≤4611686018427387904)
  (ih:∀ x∈l,∀ pA A,Po.At F x pA A→NCall Tryz.prog 18 [.agg (Po.cs x pA A)] [hpB F] fun r m=>r = .bool (Po.fits x)∧m=[hpB F])
  (ct:NCall Tryz.prog 45 [.int .i64 f] [] fun r _=>r = .int .i64 tp)
  (cr:NCall Tryz.prog 43 [.agg [.int .i64 pk,.int .i64 pf,.int .i64 pv,.hs pu pl.length]] [hpB F] fun r m=>r = .bool rb∧m=[hpB F])
  (cn:NCall Tryz.prog 44 [.agg [.int .i64 pk,.int .i64 pf,.int .i64 pv,.hs pu pl.length],.agg [.int .i64 0,.int .i64 0,.int .i64 0,.hs (.slice none 0 0) 0]] [hpB F] fun r m=>r = .bool nb∧m=[hpB F]) :
  NCall Tryz.prog 18 [.agg [.int .i64 k,.int .i64 pk,.int .i64 pf,.int .i64 pv,.hs pu pl.length,.int .i64 f,.int .i64 v,.hs u l.length]] [hpB F] fun r m=>r = .bool (Po.shape k (.mk pk pf pv pl) f v l.length&&Po.fitsL l)∧MemFits m [hpB F]:=by
 have hfl:=Po.fitsL_iff l
 have hsh:Po.shape k (.mk pk pf pv pl) f v l.length=decide ((k:Int)=1∧rb=true∧(f=0∧v=0)∧l.length=0∨(k:Int)=2∧nb=true∧(0≤f∧f≤4)∧(0≤v∧v≤tp)∧l.length=0∨((k:Int)=3∨(k:Int)=4)∧nb=true∧(f=0∧v=0)∧2≤l.length∧l.length≤8∨(k:Int)=5∧rb=true∧(f=0∧v=0)∧l.length=2):=by rw [← htp,← hnb,← hrb];rfl
 clear htp hnb hrb
 refine ncall_of Tryz.func18 rfl (by decide) ?_
 rw [show Po.shape k (.mk pk pf pv pl) f v l.length=false by rw [hsh];exact decide_eq_false (by omega)]
 clear hsh hfl ih
 rw [Bool.false_and]
 by_cases hk0:k<1
 iterate 2
  ·repeat' first|(refine sxZK [] ?_;try clear hK K)|refine sxW ?_ ?_<;>intro _|refine sxVK ?_ ?_|(intro K hK _;(conv=>whnf))
   all_goals first
    | exact ⟨rfl,MemFits.pre 1 rfl⟩
    | (exfalso;omega)
theorem fits27_c:∀ (n:Nat) (x:Po.T) (pu u:Value),Po.tot x≤n→Po.tot x≤4611686018427387904→Po.At F x pu u →
  NCall Tryz.prog 18 [.agg (Po.cs x pu u)] [hpB F] fun r m=>r = .bool (Po.fits x)∧m=[hpB F]
 | 0,x,pu,u,hn,_,_=>absurd (Po.tot_pos x) (by omega)
 | n+1,⟨k,⟨pk,pf,pv,pl⟩,f,v,l⟩,pu,u,hn,hs,hx=>by
  refine NCall.fits (K:=fun r m=>r = .bool (Po.fits (.mk k (.mk pk pf pv pl) f v l))∧MemFits m [hpB F]) ?_ fun r m' h=>⟨r,_,rfl,h.2,h.1,rfl⟩
  have hll:=Po.length_le l
  have e2:=Po.tot_mk k (.mk pk pf pv pl) f v l
  have ih:∀ x∈l,∀ pA A,Po.At F x pA A→NCall Tryz.prog 18 [.agg (Po.cs x pA A)] [hpB F] fun r m=>r = .bool (Po.fits x)∧m=[hpB F]:=fun x hx pA A hA=>fits27_c n x pA A (by have:=Po.tot_lt (k:=k) (q:=.mk pk pf pv pl) (f:=f) (v:=v) hx;omega) (by have:=Po.tot_lt (k:=k) (q:=.mk pk pf pv pl) (f:=f) (v:=v) hx;omega) hA
  have ct:=reftop26_c f
  have cr:=refright26_c F (.mk pk pf pv pl) pu (by omega) hx.p
  have cn:=refsame26_c F _ (.mk pk pf pv pl) Po.noneP pu (.slice none 0 0) (Nat.le_refl _) (by omega) (by decide +kernel) hx.p RowF.nil
  rw [Po.fits,po_cs]
  by_cases hk:k=1∨k=2∨k=3∨k=4∨k=5
  ·rcases hk with rfl | rfl | rfl | rfl | rfl
   ·exact fits27_1 F pk pf pv pl f v l pu u _ _ _ rfl rfl rfl hx.l hx.l.ok hx.p.ok (by omega) ih ct cr cn
   ·exact fits27_2 F pk pf pv pl f v l pu u _ _ _ rfl rfl rfl hx.l hx.l.ok hx.p.ok (by omega) ih ct cr cn
   ·exact fits27_3 F pk pf pv pl f v l pu u _ _ _ rfl rfl rfl hx.l hx.l.ok hx.p.ok (by omega) ih ct cr cn
   ·exact fits27_4 F pk pf pv pl f v l pu u _ _ _ rfl rfl rfl hx.l hx.l.ok hx.p.ok (by omega) ih ct cr cn
   ·exact fits27_5 F pk pf pv pl f v l pu u _ _ _ rfl rfl rfl hx.l hx.l.ok hx.p.ok (by omega) ih ct cr cn
  ·exact fits27_z F k hk pk pf pv pl f v l pu u _ _ _ rfl rfl rfl hx.l hx.l.ok hx.p.ok (by omega) ih ct cr cn
theorem refright27_c (x:Po.T) (pu u:Value) (hs:Po.tot x≤4611686018427387904) (hx:Po.At F x pu u):NCall Tryz.prog 5 [.agg (Po.cs x pu u)] [hpB F] fun r m=>r = .bool (Po.right x)∧m=[hpB F]:=by
 refine NCall.fits (K:=fun r m=>r = .bool (Po.right x)∧MemFits m [hpB F]) ?_ fun r m' h=>⟨r,_,rfl,h.2,h.1,rfl⟩
 have c1:=refsize27_c F _ x pu u (Nat.le_refl _) hs hx
 have c2:=refdeep27_c F _ x pu u (Nat.le_refl _) hs hx
 have c3:=refwide27_c F _ x pu u (Nat.le_refl _) hs hx
 have c4:=fits27_c F _ x pu u (Nat.le_refl _) hs hx
 have hd:=Po.deep_tot x
 have hz:=Po.size_tot x
 have hwd:=Po.wide_le x
 have hok:=hx.l.ok
 have hpok:=hx.p.ok
 unfold Po.right
 generalize Po.fits x=fb at *
 generalize Po.size x=sz at *
 generalize Po.deep x=dp at *
 generalize Po.wide x=wd at *
 simp only [Po.cs] at *
 clear hx
 refine ncall_of Tryz.func5 rfl (by decide) ?_
 cases fb
 ·repeat' first|(intro K hK;(with_reducible refine gC ?_);refine cS [0] c4 ?_)|(refine sxZ ?_;try clear hK K)|refine sxW ?_ ?_<;>intro _|(intro K hK _;(conv=>whnf))
  all_goals first
   | (exfalso;omega)
   | exact ⟨by simp,MemFits.pre 1 rfl⟩
 by_cases h1:dp≤8
 ·by_cases h2:sz≤64
  ·by_cases h3:wd≤64
   ·repeat' first|(intro K hK;(with_reducible refine gC ?_);first|refine cS [0] c4 ?_|refine cS [0] c1 ?_|refine cS [0] c2 ?_|refine cS [0] c3 ?_)|(refine sxZ ?_;try clear hK K)|refine sxW ?_ ?_<;>intro _|(intro K hK _;(conv=>whnf))
    all_goals first
     | (exfalso;omega)
     | (refine ⟨?_,MemFits.pre 1 rfl⟩;congr 1;simp [h1,h2,h3]<;>omega)
   ·repeat' first|(intro K hK;(with_reducible refine gC ?_);first|refine cS [0] c4 ?_|refine cS [0] c1 ?_|refine cS [0] c2 ?_|refine cS [0] c3 ?_)|(refine sxZ ?_;try clear hK K)|refine sxW ?_ ?_<;>intro _|(intro K hK _;(conv=>whnf))
    all_goals first
     | (exfalso;omega)
     | (refine ⟨?_,MemFits.pre 1 rfl⟩;congr 1;simp [h3]<;>omega)
  ·repeat' first|(intro K hK;(with_reducible refine gC ?_);first|refine cS [0] c4 ?_|refine cS [0] c2 ?_|refine cS [0] c1 ?_)|(refine sxZ ?_;try clear hK K)|refine sxW ?_ ?_<;>intro _|(intro K hK _;(conv=>whnf))
   all_goals first
    | (exfalso;omega)
    | (refine ⟨?_,MemFits.pre 1 rfl⟩;congr 1;simp [h2]<;>omega)
 ·repeat' first|(intro K hK;(with_reducible refine gC ?_);first|refine cS [0] c4 ?_|refine cS [0] c2 ?_)|(refine sxZ ?_;try clear hK K)|refine sxW ?_ ?_<;>intro _|(intro K hK _;(conv=>whnf))
  all_goals first
   | (exfalso;omega)
   | (refine ⟨?_,MemFits.pre 1 rfl⟩;congr 1;simp [h1]<;>omega)
end
end Go.Proofs.YtmehinfgdcmmjaaGreatDoor
namespace Go.Proofs.YtmehinfgdcmmjaaGreatDoor
open Go.Sx
set_option maxRecDepth 20000
set_option linter.unusedVariables false
namespace Tp
abbrev Pl:=Int × Int
def lkP (x:Lk):List Pl:=[(x.a,x.pa),(x.b,x.pb)]
def hsP (x:Hs):Pl:=(x.at_,x.port)
def places (t:T):List Pl:=t.ls.flatMap lkP++t.hs.map hsP
def lkOk (x:Lk):Bool:=decide (¬ x.a=x.b∧1≤x.least∧x.least≤x.most∧x.most≤1000)
def plOk (t:T) (q:Pl):Bool:=decide ((0≤q.1∧q.1<t.n)∧0≤q.2∧q.2<8)
def bounds (t:T):Bool:=decide ((1≤t.n∧t.n≤8)∧t.ls.length≤24∧t.hs.length≤8)
def right (t:T):Bool:=bounds t&&(t.ls.all lkOk&&((places t).all (plOk t)&&decide (places t).Nodup))
theorem all_next {α:Type} {q:α→Bool} {l:List α} {k:Nat} {x:α} (hx:l[k]?=some x):(l.take (k+1)).all q=((l.take k).all q&&q x):=by
 rw [List.take_add_one,hx,List.all_append]
 simp
theorem all_not {α:Type} {q:α→Bool} {l:List α} {k:Nat} {x:α} (hx:l[k]?=some x) (h:q x=false):l.all q=false:=by
 rw [List.all_eq_false]
 exact ⟨x,List.mem_of_getElem? hx,by rw [h];simp⟩
theorem right_bounds {t:T} (h:bounds t=false):right t=false:=by unfold right;rw [h];rfl
theorem right_lk {t:T} (h:t.ls.all lkOk=false):right t=false:=by unfold right;rw [h];simp
theorem right_pl {t:T} (h:(places t).all (plOk t)=false):right t=false:=by unfold right;rw [h];simp
theorem right_dup {t:T} (h:¬ (places t).Nodup):right t=false:=by unfold right;rw [decide_eq_false h];simp
theorem right_ok {t:T} (h:bounds t=true) (h2:t.ls.all lkOk=true) (h3:(places t).all (plOk t)=true) (h4:(places t).Nodup):right t=true:=by unfold right;rw [h,h2,h3,decide_eq_true h4];rfl
theorem nodup_take {l:List Pl} {k:Nat} {x:Pl} (hx:l[k]?=some x) (h:(l.take k).Nodup) (hno:x ∉ l.take k):(l.take (k+1)).Nodup:=by
 rw [List.take_add_one,hx]
 exact List.nodup_append.2 ⟨h,by simp,fun a ha b hb e=>by simp at hb;subst hb;subst e;exact hno ha⟩
theorem dup_take {l:List Pl} {k:Nat} {x:Pl} (hx:l[k]?=some x) (h:x∈l.take k):¬ l.Nodup:=fun hn=>by
 have h2:(l.take (k+1)).Nodup:=hn.sublist (List.take_sublist ..)
 rw [List.take_add_one,hx] at h2
 exact (List.nodup_append.1 h2).2.2 x h x (by simp) rfl
theorem places_len (t:T):(places t).length=2*t.ls.length+t.hs.length:=by
 unfold places
 rw [List.length_append,List.length_map]
 congr 1
 induction t.ls with
 | nil=>rfl
 | cons x l ih=>rw [List.flatMap_cons,List.length_append,ih,List.length_cons];show 2+_=_;omega
end Tp
end Go.Proofs.YtmehinfgdcmmjaaGreatDoor
