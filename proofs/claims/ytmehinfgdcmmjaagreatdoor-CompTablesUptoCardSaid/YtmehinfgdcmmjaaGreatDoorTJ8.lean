/- A part of the proof. -/
import Derived.Test.YtmehinfgdcmmjaaGreatDoorTJ2
import Derived.Test.YtmehinfgdcmmjaaGreatDoorTJ7
namespace Go.Proofs.YtmehinfgdcmmjaaGreatDoor
open Go.Sx
set_option maxRecDepth 20000
set_option linter.unusedSimpArgs false
set_option linter.unusedVariables false
set_option maxHeartbeats 2000000
namespace Po
inductive R (F:Heap):T→List Value→Prop where
  | mk (k:Int) (p:Pd.T) (f v:Int) (l:List T) (pA:Option Addr) (pcap:Nat) (hp:Pd.Row F (.slice pA p.l.length pcap) p.l) (A:Option Addr) (cap:Nat) (g:Nat→List Value) (hs:SlOk (.slice A l.length cap) l.length) (h1:∀ (i:Nat) (x:T),l[i]?=some x→R F x (g i))
      (h2:∀ i,i<l.length→(g i).length=8∧CellsF F (addrOf (.slice A l.length cap)) (i*8) (g i)) :
      R F (.mk k p f v l) [.int .i64 k,.int .i64 p.k,.int .i64 p.f,.int .i64 p.v,.slice pA p.l.length pcap,.int .i64 f,.int .i64 v,.slice A l.length cap]
abbrev Row (F:Heap) (v:Value) (l:List T):Prop:=aI F 8 (R F) v l
structure At (F:Heap) (x:T) (pu u:Value):Prop where
  p:Pd.Row F pu x.p.l
  l:Row F u x.l
def cs (x:T) (pu u:Value):List AV:=[.int .i64 x.k,.int .i64 x.p.k,.int .i64 x.p.f,.int .i64 x.p.v,.hs pu x.p.l.length,.int .i64 x.f,.int .i64 x.v,.hs u x.l.length]
theorem R.inv {F:Heap} {x:T} {us:List Value} (h:R F x us):∃ pA pcap A cap,At F x (.slice pA x.p.l.length pcap) (.slice A x.l.length cap) ∧
    us=[.int .i64 x.k,.int .i64 x.p.k,.int .i64 x.p.f,.int .i64 x.p.v,.slice pA x.p.l.length pcap,.int .i64 x.f,.int .i64 x.v,.slice A x.l.length cap]:=by
  cases h with
  | mk k p f v l pA pcap hp A cap g hs h1 h2=>exact ⟨pA,pcap,A,cap,⟨hp,⟨hs,fun i x hx=>⟨g i,h1 i x hx,(h2 i (List.getElem?_eq_some_iff.1 hx).1).1,(h2 i (List.getElem?_eq_some_iff.1 hx).1).2⟩⟩⟩,rfl⟩
theorem R.of {F:Heap} {x:T} {pA A:Option Addr} {pcap cap:Nat} (h:At F x (.slice pA x.p.l.length pcap) (.slice A x.l.length cap)) :
    R F x [.int .i64 x.k,.int .i64 x.p.k,.int .i64 x.p.f,.int .i64 x.p.v,.slice pA x.p.l.length pcap,.int .i64 x.f,.int .i64 x.v,.slice A x.l.length cap]:=by
  obtain ⟨k,p,f,v,l⟩:=x
  obtain ⟨hp,h⟩:=h
  have h:Row F (.slice A l.length cap) l:=h
  have hg:∀ i:Nat,∃ g:List Value,∀ x,l[i]?=some x→R F x g∧g.length=8∧CellsF F (addrOf (.slice A l.length cap)) (i*8) g:=fun i=>by
    cases hx:l[i]? with
    | none=>exact ⟨[],fun x e=>by cases e⟩
    | some x =>
      obtain ⟨g,h1,h2,h3⟩:=h.at_ i x hx
      exact ⟨g,fun y e=>by cases e;exact ⟨h1,h2,h3⟩⟩
  refine R.mk k p f v l pA pcap hp A cap (fun i=>Classical.choose (hg i)) h.ok (fun i x hx=>(Classical.choose_spec (hg i) x hx).1) fun i hi=>?_
  have:=Classical.choose_spec (hg i) l[i] (List.getElem?_eq_getElem hi)
  exact ⟨this.2.1,this.2.2⟩
theorem R.mono {F G:Heap} (h:F.le G) {p:T} {us:List Value} (hp:R F p us):R G p us:=by
  induction hp with
  | mk k p f v l pA pcap hp A cap g hs _ h2 ih=>exact R.mk k p f v l pA pcap (Pd.Row.mono h hp) A cap g hs ih fun i hi=>⟨(h2 i hi).1,(h2 i hi).2.mono h⟩
theorem Row.mono {F G:Heap} (h:F.le G) {v:Value} {l:List T} (hv:Row F v l):Row G v l:=aI.mono h (fun _ _ hp=>R.mono h hp) hv
theorem At.mono {F G:Heap} (h:F.le G) {x:T} {pu u:Value} (hx:At F x pu u):At G x pu u:=⟨Pd.Row.mono h hx.p,Row.mono h hx.l⟩
structure Cell (F:Heap) (v:Value) (i:Nat) (x:T) (pA:Option Addr) (pcap:Nat) (A:Option Addr) (cap:Nat):Prop where
  c0:F.c ((addrOf v).add (i*8)) (.int .i64 x.k)
  c1:F.c ((addrOf v).add (i*8+1)) (.int .i64 x.p.k)
  c2:F.c ((addrOf v).add (i*8+2)) (.int .i64 x.p.f)
  c3:F.c ((addrOf v).add (i*8+3)) (.int .i64 x.p.v)
  c4:F.c ((addrOf v).add (i*8+4)) (.slice pA x.p.l.length pcap)
  c5:F.c ((addrOf v).add (i*8+5)) (.int .i64 x.f)
  c6:F.c ((addrOf v).add (i*8+6)) (.int .i64 x.v)
  c7:F.c ((addrOf v).add (i*8+7)) (.slice A x.l.length cap)
theorem Row.get {F:Heap} {v:Value} {l:List T} (h:Row F v l) {i:Nat} {x:T} (hx:l[i]?=some x):∃ pA pcap A cap,At F x (.slice pA x.p.l.length pcap) (.slice A x.l.length cap)∧Cell F v i x pA pcap A cap:=by
  obtain ⟨us,h1,_,h2⟩:=h.at_ i x hx
  obtain ⟨pA,pcap,A,cap,h3,rfl⟩:=h1.inv
  simp only [CellsF,Nat.add_assoc,Nat.reduceAdd] at h2
  obtain ⟨c0,c1,c2,c3,c4,c5,c6,c7,_⟩:=h2
  exact ⟨pA,pcap,A,cap,h3,c0,c1,c2,c3,c4,c5,c6,c7⟩
end Po
theorem aY (k:Int) (p:Pd.T) (f v:Int) (l:List Po.T) (pu u:Value):Po.cs (.mk k p f v l) pu u=[.int .i64 k,.int .i64 p.k,.int .i64 p.f,.int .i64 p.v,.hs pu p.l.length,.int .i64 f,.int .i64 v,.hs u l.length]:=rfl
section
variable (F:Heap)
theorem jZ:∀ (n:Nat) (x:Po.T) (pu u:Value),Po.tot x≤n→Po.tot x≤4611686018427387904→Po.At F x pu u →
    Qz Tryz.prog 99 [.agg (Po.cs x pu u)] [hpB F] fun r m=>r = .int .i64 (Po.size x:Nat)∧m=[hpB F]
  | 0,x,pu,u,hn,_,_=>absurd (Po.tot_pos x) (by omega)
  | n+1,⟨k,p,f,v,l⟩,pu,u,hn,hs,hx=>by
    refine Qz.fits (K:=fun r m=>r = .int .i64 (Po.size (.mk k p f v l):Nat)∧Qw m [hpB F]) ?_ fun r m' h=>⟨r,_,rfl,h.2,h.1,rfl⟩
    have hu:Po.Row F u l:=hx.l
    have hpu:Pd.Row F pu p.l:=hx.p
    have hok:=hu.ok
    have hpok:=hpu.ok
    have e:=Po.tot_mk k p f v l
    have hll:=Po.length_le l
    have cp:=size26_c F _ p pu (Nat.le_refl _) (by omega) hpu
    have ih:∀ y∈l,∀ pw w,Po.At F y pw w→_:=fun y hy pw w hw=>jZ n y pw w (by have:=Po.tot_lt (k:=k) (q:=p) (f:=f) (v:=v) hy;omega) (by have:=Po.tot_lt (k:=k) (q:=p) (f:=f) (v:=v) hy;omega) hw
    have hsz:Po.size (.mk k p f v l)=1+(if k=2∨k=3∨k=4 then 0 else Pd.size p)+Po.sizeL l:=by rw [Po.size]
    rw [hsz]
    refine aB Tryz.func99 rfl (by decide) ?_
    rw [aY]
    generalize hz:Pd.size p=z at *
    by_cases hk:k=2∨k=3∨k=4
    · rw [if_pos hk,Nat.add_zero]
      rcases hk with rfl | rfl | rfl
      iterate 3
        · repeat' first|(refine sxZ ?_;try clear hK K)|refine sxW ?_ ?_<;>intro _|(intro K hK _;conv=>whnf)
          refine aE (α:=Nat) (fun i=>i≤l.length) (fun i=>[.k,.k,.k,.set (.int .i64 (1+Po.sizeL (l.take i):Nat)),.k,.d,.k,.k,.k,.k,.k,.k,.k,.k,.k,.k,.k,.k,.k,.k,.k,.k,.k,.k,.k,.k,.k,.set (.int .i64 i),.d,.d,.d,.d,.d,.d,.d,.d,.k]) (fun _=>[]) (fun i=>l.length - i) 0 (Nat.zero_le _) ?_ (Qw.eq rfl) ?_
          · repeat (first | exact Qq.nil | refine Qq.any ?_ | refine Qq.cons (Fit1.int (by  simp [Po.sizeL])) ?_ | refine Qq.cons (Fit1.int (by first | rfl | omega)) ?_ | refine Qq.cons (Fit1.bool rfl) ?_ | refine Qq.cons (Fit1.str rfl) ?_ | refine Qq.cons (Fit1.same (by intro h;cases h) (by with_reducible rfl)) ?_ | refine Qq.cons Fit1.nil_sl ?_ | refine Qq.cons (Fit1.hs rfl) ?_ | refine Qq.cons (Fit1.hp rfl rfl) ?_ | refine Qq.cons (Fit1.sl rfl) ?_ | refine Qq.cons (Fit1.ptr rfl rfl) ?_ | refine Qq.cons Fit1.raw ?_)
          (intro i hi;intro K hK;(conv=>whnf);refine hK _ _ ?_;clear hK K)
          have hle:=Po.sizeL_take_le (l:=l) (k:=i)
          by_cases hlt:i<l.length
          · have hx:l[i]?=some l[i]:=List.getElem?_eq_getElem hlt
            obtain ⟨pA,pcap,A,cap,hA,c0,c1,c2,c3,c4,c5,c6,c7⟩:=hu.get hx
            have hmem:=List.mem_of_getElem? hx
            have hnx:=Po.sizeL_take hlt
            have hle2:=Po.sizeL_take_le (l:=l) (k:=i+1)
            have hAo:=hA.l.ok
            have hAp:=hA.p.ok
            have c:=ih _ hmem _ _ hA
            clear ih
            generalize l[i]=y at *
            generalize Po.size y=sx at *
            generalize Po.sizeL (l.take i)=si at *
            obtain ⟨yk,⟨ypk,ypf,ypv,ypl⟩,yf,yv,yl⟩:=y
            simp only [Po.cs,Po.T.k,Po.T.p,Po.T.f,Po.T.v,Po.T.l,Pd.T.k,Pd.T.f,Pd.T.v,Pd.T.l] at c c0 c1 c2 c3 c4 c5 c6 c7 hAo hAp
            repeat' first|(intro K hK;(with_reducible refine gC ?_);refine cS [0] c ?_)|(refine sxZ ?_;try clear hK K)|refine sxW ?_ ?_<;>intro _|(intro K hK _;conv=>whnf)
            refine aC (i+1) hlt (by omega) ?_ (Qw.pre 2 rfl)
            repeat (first | exact Qq.nil | refine Qq.any ?_ | refine Qq.cons (Fit1.int (by  omega)) ?_ | refine Qq.cons (Fit1.int (by first | rfl | omega)) ?_ | refine Qq.cons (Fit1.bool rfl) ?_ | refine Qq.cons (Fit1.str rfl) ?_ | refine Qq.cons (Fit1.same (by intro h;cases h) (by with_reducible rfl)) ?_ | refine Qq.cons Fit1.nil_sl ?_ | refine Qq.cons (Fit1.hs rfl) ?_ | refine Qq.cons (Fit1.hp rfl rfl) ?_ | refine Qq.cons (Fit1.sl rfl) ?_ | refine Qq.cons (Fit1.ptr rfl rfl) ?_ | refine Qq.cons Fit1.raw ?_)
          · have hkl:i=l.length:=by omega
            subst hkl
            rw [List.take_length] at hle ⊢
            clear ih
            repeat' first|(refine sxZ ?_;try clear hK K)|refine sxW ?_ ?_<;>intro _|(intro K hK _;conv=>whnf)
            all_goals exact ⟨rfl,Qw.pre 1 rfl⟩
    · rw [if_neg hk]
      obtain ⟨pk,pf,pv,pl⟩:=p
      simp only [pd_cs,Pd.T.k,Pd.T.f,Pd.T.v,Pd.T.l] at *
      repeat' first|(intro K hK;(with_reducible refine gC ?_);refine cS [0] cp ?_)|(refine sxZ ?_;try clear hK K)|refine sxW ?_ ?_<;>intro _|(intro K hK _;conv=>whnf)
      all_goals first | (exfalso;omega) | skip
      refine aE (α:=Nat) (fun i=>i≤l.length) (fun i=>[.k,.k,.k,.set (.int .i64 (1+z+Po.sizeL (l.take i):Nat)),.k,.d,.k,.k,.k,.k,.k,.k,.k,.k,.k,.k,.k,.k,.k,.k,.k,.k,.k,.k,.k,.k,.k,.set (.int .i64 i),.d,.d,.d,.d,.d,.d,.d,.d,.k]) (fun _=>[]) (fun i=>l.length - i) 0 (Nat.zero_le _) ?_ (Qw.eq rfl) ?_
      · repeat (first | exact Qq.nil | refine Qq.any ?_ | refine Qq.cons (Fit1.int (by  simp [Po.sizeL])) ?_ | refine Qq.cons (Fit1.int (by first | rfl | omega)) ?_ | refine Qq.cons (Fit1.bool rfl) ?_ | refine Qq.cons (Fit1.str rfl) ?_ | refine Qq.cons (Fit1.same (by intro h;cases h) (by with_reducible rfl)) ?_ | refine Qq.cons Fit1.nil_sl ?_ | refine Qq.cons (Fit1.hs rfl) ?_ | refine Qq.cons (Fit1.hp rfl rfl) ?_ | refine Qq.cons (Fit1.sl rfl) ?_ | refine Qq.cons (Fit1.ptr rfl rfl) ?_ | refine Qq.cons Fit1.raw ?_)
      (intro i hi;intro K hK;(conv=>whnf);refine hK _ _ ?_;clear hK K)
      have hle:=Po.sizeL_take_le (l:=l) (k:=i)
      by_cases hlt:i<l.length
      · have hx:l[i]?=some l[i]:=List.getElem?_eq_getElem hlt
        obtain ⟨pA,pcap,A,cap,hA,c0,c1,c2,c3,c4,c5,c6,c7⟩:=hu.get hx
        have hmem:=List.mem_of_getElem? hx
        have hnx:=Po.sizeL_take hlt
        have hle2:=Po.sizeL_take_le (l:=l) (k:=i+1)
        have hAo:=hA.l.ok
        have hAp:=hA.p.ok
        have c:=ih _ hmem _ _ hA
        clear ih
        generalize l[i]=y at *
        generalize Po.size y=sx at *
        generalize Po.sizeL (l.take i)=si at *
        obtain ⟨yk,⟨ypk,ypf,ypv,ypl⟩,yf,yv,yl⟩:=y
        simp only [Po.cs,Po.T.k,Po.T.p,Po.T.f,Po.T.v,Po.T.l,Pd.T.k,Pd.T.f,Pd.T.v,Pd.T.l] at c c0 c1 c2 c3 c4 c5 c6 c7 hAo hAp
        repeat' first|(intro K hK;(with_reducible refine gC ?_);refine cS [0] c ?_)|(refine sxZ ?_;try clear hK K)|refine sxW ?_ ?_<;>intro _|(intro K hK _;conv=>whnf)
        refine aC (i+1) hlt (by omega) ?_ (Qw.pre 2 rfl)
        repeat (first | exact Qq.nil | refine Qq.any ?_ | refine Qq.cons (Fit1.int (by  omega)) ?_ | refine Qq.cons (Fit1.int (by first | rfl | omega)) ?_ | refine Qq.cons (Fit1.bool rfl) ?_ | refine Qq.cons (Fit1.str rfl) ?_ | refine Qq.cons (Fit1.same (by intro h;cases h) (by with_reducible rfl)) ?_ | refine Qq.cons Fit1.nil_sl ?_ | refine Qq.cons (Fit1.hs rfl) ?_ | refine Qq.cons (Fit1.hp rfl rfl) ?_ | refine Qq.cons (Fit1.sl rfl) ?_ | refine Qq.cons (Fit1.ptr rfl rfl) ?_ | refine Qq.cons Fit1.raw ?_)
      · have hkl:i=l.length:=by omega
        subst hkl
        rw [List.take_length] at hle ⊢
        clear ih
        repeat' first|(refine sxZ ?_;try clear hK K)|refine sxW ?_ ?_<;>intro _|(intro K hK _;conv=>whnf)
        all_goals exact ⟨rfl,Qw.pre 1 rfl⟩
end
namespace Lx
def sk (tx:List UInt8) (i:Nat):Nat:=tx.length - (skip (tx.drop i)).length
theorem drop_wl (p:UInt8→Bool) (tx:List UInt8) (i:Nat):(tx.drop i).dropWhile p=tx.drop (i+wl p tx i):=by
  have:=(tw_take p (tx.drop i)).2
  rw [List.drop_drop] at this
  exact this.symm
theorem drop_getD (tx:List UInt8) (i:Nat) (hi:i<tx.length):tx.drop i=tx.getD i 0::tx.drop (i+1):=by
  rw [List.drop_eq_getElem_cons hi]
  simp [List.getD,hi]
end Lx
set_option maxHeartbeats 1000000 in
theorem oL (a:Addr) (tx:List UInt8) (i:Nat) (hi:i≤tx.length) (hs:tx.length≤10000) :
    Qz Tryz.prog 170 [.ptr 0 a 0] [LB a tx i] fun r m=>r = .tup []∧m=[LB a tx (Lx.sk tx i)]:=by
  refine aB Tryz.func170 rfl (by decide) ?_
  repeat' first|(refine sxZ ?_;try clear hK K)|refine sxW ?_ ?_<;>intro _|(intro K hK _;conv=>whnf)
  refine aE (α:=Nat) (fun j=>j≤tx.length∧Lx.skip (tx.drop j)=Lx.skip (tx.drop i)) (fun j=>[.k,.k,.d,.d,.d,.d,.d,.d,.d,.d,.d,.d,.d,.d,.d,.d,.d,.d,.d,.d,.d,.d,.d,.d,.d,.d,.d,.d]) (fun j=>[.set (LB a tx j)]) (fun j=>tx.length - j) i ⟨hi,rfl⟩ ?_ ?_ ?_
  · exact aD
  · exact Qw.eq rfl
  (intro j ⟨hj,hjs⟩;intro K hK;(conv=>whnf);refine hK _ _ ?_;clear hK K)
  have hw1:=fc 209 Lx.isSp pt a tx j hj hs
  have hle:=Lx.wl_le Lx.isSp tx j hj
  have hd:=Lx.drop_wl Lx.isSp tx j
  have hj1:j≤j+Lx.wl Lx.isSp tx j:=Nat.le_add_right _ _
  generalize j+Lx.wl Lx.isSp tx j=j1 at *
  by_cases h1:j1=tx.length
  · have e:Lx.sk tx i=j1:=by
      unfold Lx.sk
      rw [← hjs,Lx.skip_nil (by rw [hd,h1];simp)]
      simp [h1]
    rw [e]
    repeat' first|(intro K hK;(with_reducible refine gC ?_);refine cS [0] hw1 ?_)|(refine sxZ ?_;try clear hK K)|refine sxW ?_ ?_<;>intro _|(intro K hK _;conv=>whnf)
    all_goals exact ⟨rfl,rfl⟩
  · have hlt:j1<tx.length:=by omega
    have hg:=Lx.drop_getD tx j1 hlt
    by_cases h2:(tx.getD j1 0)=35
    · have hw2:=fc 210 Lx.notNl qF a tx j1 (by omega) hs
      have hle2:=Lx.wl_le Lx.notNl tx j1 (by omega)
      have hd2:=Lx.drop_wl Lx.notNl tx j1
      have hn:(tx.getD j1 0).toNat=35:=by rw [h2];rfl
      have hpos:j1<j1+Lx.wl Lx.notNl tx j1:=by
        unfold Lx.wl
        rw [hg,h2,List.takeWhile_cons_of_pos (by decide)]
        simp
      have hst:Lx.skip (tx.drop (j1+Lx.wl Lx.notNl tx j1))=Lx.skip (tx.drop i):=by
        rw [← hjs,Lx.skip_cons (hd.trans hg),if_pos h2,← hd2,hg,h2,List.dropWhile_cons_of_pos (by decide)]
      generalize j1+Lx.wl Lx.notNl tx j1=j2 at *
      repeat' first|(intro K hK;(with_reducible refine gC ?_);first|refine cS [0] hw1 ?_|refine cS [0] hw2 ?_)|(refine sxZ ?_;try clear hK K)|refine sxW ?_ ?_<;>intro _|(intro K hK _;conv=>whnf)
      all_goals first
        | (refine aC j2 ⟨hle2,hst⟩ (by omega) ?_ (Qw.eq rfl)
           exact aD
          )
    · have hn:(tx.getD j1 0).toNat≠35:=fun e=>h2 (UInt8.toNat_inj.1 (by rw [e];rfl))
      have e:Lx.sk tx i=j1:=by
        unfold Lx.sk
        rw [← hjs,Lx.skip_cons (hd.trans hg),if_neg h2,← hg,List.length_drop]
        omega
      rw [e]
      repeat' first|(intro K hK;(with_reducible refine gC ?_);refine cS [0] hw1 ?_)|(refine sxZ ?_;try clear hK K)|refine sxW ?_ ?_<;>intro _|(intro K hK _;conv=>whnf)
      all_goals exact ⟨rfl,rfl⟩
def bO (k n:Int) (t:List UInt8) (at_:Int):AV:=.agg [.int .i64 k,.int .i64 n,.str t,.int .i64 at_]
theorem nx (c:UInt8) (h:Lx.isD c=true):IntKind.u8.wrap ((c.toNat:Int) - 48)=((c.toNat - 48:Nat):Int):=by
  rw [kW] at h
  have:=of_decide_eq_true h
  rw [po];omega
theorem lW:∀ (d:List UInt8),d.length≤3→(∀ c∈d,Lx.isD c=true)→Lx.num d≤999:=by
  intro d hl hd
  have h9:∀ c∈d,c.toNat - 48≤9:=fun c hc=>by
    have:=hd c hc
    rw [kW] at this
    have:=of_decide_eq_true this
    omega
  match d with
  | []=>simp [Lx.num]
  | [a]=>have:=h9 a (by simp);simp [Lx.num];omega
  | [a,b]=>have:=h9 a (by simp);have:=h9 b (by simp);simp [Lx.num];omega
  | [a,b,c]=>have:=h9 a (by simp);have:=h9 b (by simp);have:=h9 c (by simp);simp [Lx.num];omega
  | a::b::c::e::r=>simp at hl
theorem jx (d:List UInt8) (k:Nat) (hk:k<d.length):Lx.num (d.take (k+1))=10*Lx.num (d.take k)+((d.getD k 0).toNat - 48):=by
  have e:d.take (k+1)=d.take k++[d.getD k 0]:=by
    rw [List.take_add_one]
    simp [List.getD,hk]
  unfold Lx.num
  rw [e,List.foldl_append]
  rfl
def Lx.numOk (d:List UInt8):Prop:=¬ (3<d.length∨(1<d.length∧d.getD 0 0=48))
instance (d:List UInt8):Decidable (Lx.numOk d):=by unfold Lx.numOk;infer_instance
set_option maxHeartbeats 1000000 in
theorem oY (a:Addr) (tx:List UInt8) (i:Nat) (hi:i≤tx.length) (hs:tx.length≤10000) (d:List UInt8) (hd:(tx.drop i).takeWhile Lx.isD=d) (hne:d≠[]) :
    Qz Tryz.prog 213 [.ptr 0 a 0] [LB a tx i] fun r m=>r = .tup [if Lx.numOk d then bO 2 (Lx.num d) [] i else bO 0 0 [] i,.bool (decide (Lx.numOk d))]∧Qw m [LB a tx (i+d.length)]:=by
  have hall:∀ c∈d,Lx.isD c=true:=fun c hc=>by rw [← hd] at hc;exact Lx.tw_all hc
  have hw:=fc 212 Lx.isD mN a tx i hi hs
  have hwl:Lx.wl Lx.isD tx i=d.length:=by unfold Lx.wl;rw [hd]
  rw [hwl,hd] at hw
  have hl1:1≤d.length:=by cases d with | nil=>exact (hne rfl).elim | cons x d=>simp
  clear hd hwl
  refine aB Tryz.func213 rfl (by decide) ?_
  by_cases h:Lx.numOk d
  · rw [if_pos h,decide_eq_true h]
    have hl3:d.length≤3:=by
      by_cases e:3<d.length
      · exact (h (.inl e)).elim
      · omega
    have hz:¬ (1<d.length∧(d.getD 0 0).toNat=48):=fun e=>h (.inr ⟨e.1,UInt8.toNat_inj.1 (by rw [e.2];rfl)⟩)
    have hk:=lW
    unfold bO
    by_cases h1:1<d.length
    · have hz0:(d.getD 0 0).toNat≠48:=fun e=>hz ⟨h1,e⟩
      repeat' first|(intro K hK;(with_reducible refine gC ?_);refine cS [0] hw ?_)|(refine sxZ ?_;try clear hK K)|refine sxW ?_ ?_<;>intro _|(intro K hK _;conv=>whnf)
      all_goals
        refine aE (α:=Nat) (fun k=>k≤d.length) (fun k=>[.k,.k,.k,.k,.k,.k,.set (.int .i64 (Lx.num (d.take k))),.d,.k,.k,.k,.k,.k,.k,.k,.k,.k,.k,.k,.k,.k,.k,.k,.k,.k,.k,.k,.k,.k,.k,.k,.set (.int .i64 k),.d,.d,.d,.d,.d,.d,.d,.d,.d,.d,.d,.k,.k,.k]) (fun _=>[]) (fun k=>d.length - k) 0 (Nat.zero_le _) ?_ (Qw.eq rfl) ?_
        · exact aD
        (intro k hk;intro K hK;(conv=>whnf);refine hK _ _ ?_;clear hK K)
        by_cases hlt:k<d.length
        · have hn:=jx d k hlt
          have hb:=lW (d.take k) (by rw [List.length_take];omega) (fun c hc=>hall c (List.mem_of_mem_take hc))
          have hdk:Lx.isD (d.getD k 0)=true:=hall _ (by simp [List.getD,hlt])
          have hsub:=nx _ hdk
          rw [kW] at hdk
          have hdk:=of_decide_eq_true hdk
          generalize Lx.num (d.take k)=nk at *
          have hcv:IntKind.i64.wrap (((d.getD k 0).toNat - 48:Nat):Int)=(((d.getD k 0).toNat - 48:Nat):Int):=wrap_i64 (by omega) (by omega)
          (repeat' (first|(with_reducible first|(refine hK _ _ ?_;clear hK K)|(refine hA ?_;clear hA hB A B)|(refine hB ?_;clear hA hB A B)|(refine hK _ ?_;clear hK K))|((with_reducible first|refine NV.eq (hsub) ?_|refine NV.eq (hcv) ?_)<;>(conv=>whnf))|refine dY ?_|refine eF ?_|((with_reducible refine gX ?_);refine z34 (by kernel_rfl) (by kernel_rfl) ?_)|(refine eG ?_;intro K hK;conv=>whnf)|(refine eH ?_;intro A B hA hB;conv=>whnf)|((with_reducible first|refine NIf.dec (fun _=>?_) (fun _=>?_)|refine NIf.both (fun _=>?_) (fun _=>?_))<;>(conv=>whnf))|((intro _;skip)<;>(conv=>whnf))))
          refine aC (k+1) hlt (by omega) ?_ (Qw.eq rfl)
          repeat (first | exact Qq.nil | refine Qq.any ?_ | refine Qq.cons (Fit1.int (by  first | rfl | (rw [hn];omega) | omega)) ?_ | refine Qq.cons (Fit1.int (by first | rfl | omega)) ?_ | refine Qq.cons (Fit1.bool rfl) ?_ | refine Qq.cons (Fit1.str rfl) ?_ | refine Qq.cons (Fit1.same (by intro h;cases h) (by with_reducible rfl)) ?_ | refine Qq.cons Fit1.nil_sl ?_ | refine Qq.cons (Fit1.hs rfl) ?_ | refine Qq.cons (Fit1.hp rfl rfl) ?_ | refine Qq.cons (Fit1.sl rfl) ?_ | refine Qq.cons (Fit1.ptr rfl rfl) ?_ | refine Qq.cons Fit1.raw ?_)
        · have e:k=d.length:=by omega
          subst e
          rw [List.take_length]
          repeat' first|(refine sxZ ?_;try clear hK K)|refine sxW ?_ ?_<;>intro _|(intro K hK _;conv=>whnf)
          all_goals exact ⟨rfl,Qw.drop [_] [_]⟩
    · repeat' first|(intro K hK;(with_reducible refine gC ?_);refine cS [0] hw ?_)|(refine sxZ ?_;try clear hK K)|refine sxW ?_ ?_<;>intro _|(intro K hK _;conv=>whnf)
      all_goals
        refine aE (α:=Nat) (fun k=>k≤d.length) (fun k=>[.k,.k,.k,.k,.k,.k,.set (.int .i64 (Lx.num (d.take k))),.d,.k,.k,.k,.k,.k,.k,.k,.k,.k,.k,.k,.k,.k,.k,.k,.k,.k,.k,.k,.k,.k,.k,.k,.set (.int .i64 k),.d,.d,.d,.d,.d,.d,.d,.d,.d,.d,.d,.k,.k,.k]) (fun _=>[]) (fun k=>d.length - k) 0 (Nat.zero_le _) ?_ (Qw.eq rfl) ?_
        · exact aD
        (intro k hk;intro K hK;(conv=>whnf);refine hK _ _ ?_;clear hK K)
        by_cases hlt:k<d.length
        · have hn:=jx d k hlt
          have hb:=lW (d.take k) (by rw [List.length_take];omega) (fun c hc=>hall c (List.mem_of_mem_take hc))
          have hdk:Lx.isD (d.getD k 0)=true:=hall _ (by simp [List.getD,hlt])
          have hsub:=nx _ hdk
          rw [kW] at hdk
          have hdk:=of_decide_eq_true hdk
          generalize Lx.num (d.take k)=nk at *
          have hcv:IntKind.i64.wrap (((d.getD k 0).toNat - 48:Nat):Int)=(((d.getD k 0).toNat - 48:Nat):Int):=wrap_i64 (by omega) (by omega)
          (repeat' (first|(with_reducible first|(refine hK _ _ ?_;clear hK K)|(refine hA ?_;clear hA hB A B)|(refine hB ?_;clear hA hB A B)|(refine hK _ ?_;clear hK K))|((with_reducible first|refine NV.eq (hsub) ?_|refine NV.eq (hcv) ?_)<;>(conv=>whnf))|refine dY ?_|refine eF ?_|((with_reducible refine gX ?_);refine z34 (by kernel_rfl) (by kernel_rfl) ?_)|(refine eG ?_;intro K hK;conv=>whnf)|(refine eH ?_;intro A B hA hB;conv=>whnf)|((with_reducible first|refine NIf.dec (fun _=>?_) (fun _=>?_)|refine NIf.both (fun _=>?_) (fun _=>?_))<;>(conv=>whnf))|((intro _;skip)<;>(conv=>whnf))))
          refine aC (k+1) hlt (by omega) ?_ (Qw.eq rfl)
          repeat (first | exact Qq.nil | refine Qq.any ?_ | refine Qq.cons (Fit1.int (by  first | rfl | (rw [hn];omega) | omega)) ?_ | refine Qq.cons (Fit1.int (by first | rfl | omega)) ?_ | refine Qq.cons (Fit1.bool rfl) ?_ | refine Qq.cons (Fit1.str rfl) ?_ | refine Qq.cons (Fit1.same (by intro h;cases h) (by with_reducible rfl)) ?_ | refine Qq.cons Fit1.nil_sl ?_ | refine Qq.cons (Fit1.hs rfl) ?_ | refine Qq.cons (Fit1.hp rfl rfl) ?_ | refine Qq.cons (Fit1.sl rfl) ?_ | refine Qq.cons (Fit1.ptr rfl rfl) ?_ | refine Qq.cons Fit1.raw ?_)
        · have e:k=d.length:=by omega
          subst e
          rw [List.take_length]
          repeat' first|(refine sxZ ?_;try clear hK K)|refine sxW ?_ ?_<;>intro _|(intro K hK _;conv=>whnf)
          all_goals exact ⟨rfl,Qw.drop [_] [_]⟩
  · rw [if_neg h,decide_eq_false h]
    unfold bO
    have h':3<d.length∨(1<d.length∧(d.getD 0 0).toNat=48):=by
      by_cases e:3<d.length
      · exact .inl e
      · by_cases e2:1<d.length∧d.getD 0 0=48
        · exact .inr ⟨e2.1,by rw [e2.2];rfl⟩
        · exact (h (fun q=>q.elim e e2)).elim
    repeat' first|(intro K hK;(with_reducible refine gC ?_);refine cS [0] hw ?_)|(refine sxZ ?_;try clear hK K)|refine sxW ?_ ?_<;>intro _|(intro K hK _;conv=>whnf)
    all_goals first
      | exact ⟨rfl,Qw.drop [_] [_]⟩
      | (exfalso;omega)
end Go.Proofs.YtmehinfgdcmmjaaGreatDoor
