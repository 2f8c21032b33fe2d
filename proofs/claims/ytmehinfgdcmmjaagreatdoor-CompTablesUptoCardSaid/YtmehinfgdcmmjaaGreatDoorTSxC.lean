/- A part of the proof. -/
import Derived.Test.YtmehinfgdcmmjaaGreatDoorTSxB
import Derived.IntWalk
import Derived.ChangeArms
import Derived.OpenShut
import Derived.ProofKit
import Derived.DataReads
namespace Go.Sx
section
variable {P:Program}
section
variable {l:List Oper} {V:Nat→Value} {a0:Act} {D D':Nat→Prop} {b b':Act}
end
def nilB:Blk:=⟨⟨0,0,none⟩,[],.ro (.slice none 0 0) 1 0⟩
def hideF (js:List Nat):Nat→List Blk→List Blk
 | _,[]=>[]
 | i,b::m=>(match js.contains i with | true=>nilB | false=>b)::hideF js (i+1) m
theorem lX (w:World):nilB.holds w:=⟨rfl,none,0,rfl,Nat.le_refl _,fun _=>rfl,fun h=>absurd h (Nat.lt_irrefl _)⟩
theorem iE (b:Nat):¬ nilB.foot b:=fun h=>by
 have:(none:Option Nat)=some b:=h
 cases this
theorem iH {js:List Nat}:∀ {m:List Blk} {i:Nat} {k:Blk},k∈hideF js i m→k=nilB∨k∈m
 | [],_,_,h=>by cases h
 | b::m,i,k,h=>by
  unfold hideF at h
  rcases List.mem_cons.1 h with h | h
  ·split at h
   ·exact .inl h
   ·exact .inr (by simp [h])
  ·rcases iH h with h | h
   ·exact .inl h
   ·exact .inr (List.mem_cons_of_mem _ h)
theorem kL {js:List Nat} {w:World}:∀ {m:List Blk} (i:Nat),Qx m w→Qx (hideF js i m) w
 | [],_,h=>h
 | b::m,i,h=>by
  obtain ⟨h1,h2⟩:=List.pairwise_cons.1 h.sep
  have ih:Qx (hideF js (i+1) m) w:=kL (i+1) ⟨fun k hk=>h.holds k (List.mem_cons_of_mem _ hk),h2⟩
  unfold hideF
  refine ⟨fun k hk=>?_,List.pairwise_cons.2 ⟨fun k hk=>?_,ih.sep⟩⟩
  ·rcases List.mem_cons.1 hk with rfl | hk
   ·split
    ·exact lX w
    ·exact h.holds b (by simp)
   ·exact ih.holds k hk
  ·split
   ·exact fun _ c hc _=>iE c hc
   ·rcases iH hk with rfl | hk
    ·exact fun _ c _ hc=>iE c hc
    ·exact h1 k hk
end
open Go.RowKit
structure rR (T:Prop):Prop where
 is:T
theorem mb {T:Nat→Prop} {Q:Prop} (pf:∀ a,T a) (main:rR (∀ a,T a)→Q):Q:=main ⟨pf⟩
theorem gV {v:Int} {K:Int→Prop} (h:NV v K):NV v K:=h
theorem gN {v:Nat} {K:Nat→Prop} (h:NN v K):NN v K:=h
theorem gS {v:List UInt8} {K:List UInt8→Prop} (h:NS v K):NS v K:=h
theorem gH {p q:Prop} (h:NH p q):NH p q:=h
theorem fP {cs:List AV} (h:ones cs=true):ones cs=true:=h
theorem kM {cs:List AV} {n:Nat} (h:cs.length=n):cs.length=n:=h
theorem gNO {P:Program} {l:List Oper} {n:Nat} {done:List Nat} {sl:List AV} {m:List Blk} {k:List AV→List Blk→Prop} (h:eA P l n done sl m k):eA P l n done sl m k:=h
theorem gNE {P:Program} {l:List Oper} {n:Nat} {done:List Nat} {sl:List AV} {m:List Blk} {k:List AV→List Blk→Prop} {rs:List (Nat × Oper)} (h:eh P l n done sl m k rs):eh P l n done sl m k rs:=h
theorem gI {b:Bool} {p q:Prop} (h:NIf b p q):NIf b p q:=h
theorem gC {P:Program} {f:FuncId} {args:List AV} {m:List Blk} {K:AV→List Blk→Prop} (h:Qz P f args m K):Qz P f args m K:=h
theorem gQ {P:Program} {f:FuncId} {args:List AV} {m:List Blk} {K:AV→Prop} (h:NCallQ P f args m K):NCallQ P f args m K:=h
theorem gO {P:Program} {ops:Array Oper} {l:List Oper} {sl:List AV} {m:List Blk} {k:List AV→List Blk→Prop} (h:opsK P ops l sl m k):opsK P ops l sl m k:=h
theorem gP {P:Program} {ops:Array Oper} {l:List Oper} {sl:List AV} {m:List Blk} {k:List AV→List Blk→Prop} (h:opsQ P ops l sl m k):opsQ P ops l sl m k:=h
theorem gX {P:Program} {c:Code} {sl:List AV} {m:List Blk} {Q:Post} (h:codeK P c sl m Q):codeK P c sl m Q:=h
theorem NV.keep {v:Int} {K:Int→Prop} (h:K v):NV v K:=dC.2 h
theorem NV.eq {v n:Int} {K:Int→Prop} (e:v=n) (h:K n):NV v K:=dC.2 (e ▸ h)
theorem NS.keep {v:List UInt8} {K:List UInt8→Prop} (h:K v):NS v K:=fA.2 h
theorem NS.eq {v s:List UInt8} {K:List UInt8→Prop} (e:v=s) (h:K s):NS v K:=fA.2 (e ▸ h)
theorem NN.keep {v:Nat} {K:Nat→Prop} (h:K v):NN v K:=ai.2 h
theorem NN.eq {v n:Nat} {K:Nat→Prop} (e:v=n) (h:K n):NN v K:=ai.2 (e ▸ h)
theorem NN.lit {n:Nat} {K:Nat→Prop} (h:K (@OfNat.ofNat Nat n (instOfNatNat n))):NN (Int.toNat (@OfNat.ofNat Int n (@instOfNat n))) K:=ai.2 h
theorem NN.cast {k:Nat} {K:Nat→Prop} (h:K k):NN (Int.toNat (k:Int)) K:=ai.2 (by rw [Int.toNat_natCast];exact h)
theorem NN.a1 {k:Nat} {K:Nat→Prop} (h:K k):NN (0+k*1) K:=NN.eq (by omega) h
theorem NN.a2 {k:Nat} {K:Nat→Prop} (h:K k):NN (k*1) K:=NN.eq (by omega) h
theorem NN.a3 {o k:Nat} {K:Nat→Prop} (h:K (o+k)):NN (o+k*1) K:=NN.eq (by omega) h
theorem NN.a5 {k:Nat} {K:Nat→Prop} (h:K k):NN (0+k) K:=NN.eq (by omega) h
theorem NN.a6 {k:Nat} {K:Nat→Prop} (h:K k):NN (k+0) K:=NN.eq (by omega) h
theorem NH.mk {p q:Prop} (hp:p) (h:q):NH p q:=aL.2 ⟨hp,h⟩
theorem NIf.yes {b:Bool} {p q:Prop} (hb:b=true) (h:p):NIf b p q:=bo.2 ⟨fun _=>h,fun e=>absurd (hb.symm.trans e) (by decide)⟩
theorem NIf.no {b:Bool} {p q:Prop} (hb:b=false) (h:q):NIf b p q:=bo.2 ⟨fun e=>absurd (hb.symm.trans e) (by decide),fun _=>h⟩
theorem NIf.dec {c:Prop} {_:Decidable c} {p q:Prop} (h1:c→p) (h2:¬ c→q):NIf (decide c) p q:=bo.2 ⟨fun e=>h1 (of_decide_eq_true e),fun e=>h2 (of_decide_eq_false e)⟩
theorem NIf.decY {c:Prop} {_:Decidable c} {p q:Prop} (hc:c) (h:p):NIf (decide c) p q:=NIf.yes (decide_eq_true hc) h
theorem NIf.decN {c:Prop} {_:Decidable c} {p q:Prop} (hc:¬ c) (h:q):NIf (decide c) p q:=NIf.no (decide_eq_false hc) h
theorem NIf.not_ {b:Bool} {p q:Prop} (h:NIf b q p):NIf (!b) p q:=by
 rw [bo] at h ⊢
 cases b
 ·exact ⟨fun _=>h.2 rfl,fun e=>absurd e (by decide)⟩
 ·exact ⟨fun e=>absurd e (by decide),fun _=>h.1 rfl⟩
theorem NBytes.mk {cs:List AV} {K:List UInt8→Prop} (l:List UInt8) (e:denL cs=l.map (fun b=>Value.int .u8 b.toNat)) (h:K l):NBytes cs K:=gm.2 ⟨l,e,h⟩
theorem wrap_i64 {x:Int} (h1 : -9223372036854775808≤x) (h2:x≤9223372036854775807):IntKind.i64.wrap x=x:=IntWalk.i64_in x ⟨h1,h2⟩
theorem NV.i64 {x:Int} {K:Int→Prop} (h1 : -9223372036854775808≤x∧x≤9223372036854775807) (h:K x):NV (IntKind.i64.wrap x) K:=NV.eq (wrap_i64 h1.1 h1.2) h
theorem qc {k:IntKind} (hk:k.signed=false) (x:Int):k.wrap x=x % (2 ^ k.bits:Int):=by
 unfold IntKind.wrap;simp [hk]
theorem po (x:Int):IntKind.u8.wrap x=x % 256:=qc rfl x
theorem Fit1.int {k:IntKind} {a b:Int} (h:a=b):Fit1 (.int k a) (.int k b):=.inr ⟨by simp,by rw [h]⟩
theorem Fit1.bool {a b:Bool} (h:a=b):Fit1 (.bool a) (.bool b):=.inr ⟨by simp,by rw [h]⟩
theorem Fit1.str {a b:List UInt8} (h:a=b):Fit1 (.str a) (.str b):=.inr ⟨by simp,by rw [h]⟩
theorem Fit1.sl {i j n n':Nat} {v v':Value} (h:v=v'):Fit1 (.sl i v n) (.sl j v' n'):=.inr ⟨by simp,by rw [h];rfl⟩
theorem Fit1.nil_sl {i:Nat}:Fit1 (.raw (.slice none 0 0)) (.sl i (.slice none 0 0) 0):=.inr ⟨by simp,rfl⟩
theorem Fit1.same {x y:AV} (h:x≠.any) (e:x=y):Fit1 x y:=.inr ⟨h,by rw [e]⟩
theorem Qq.nil:Qq [] []:=trivial
theorem Qq.cons {x y:AV} {xs ys:List AV} (h:Fit1 x y) (hs:Qq xs ys):Qq (x::xs) (y::ys):=⟨h,hs⟩
theorem Qq.any {x:AV} {xs ys:List AV} (hs:Qq xs ys):Qq (x::xs) (.any::ys):=⟨.inl rfl,hs⟩
theorem Qw.rfl_ (m:List Blk):Qw m m:=fun _ h=>⟨h,fun _ hb=>hb,fun _ hb=>hb⟩
theorem Qw.eq {m m':List Blk} (e:m=m'):Qw m m':=e ▸ Qw.rfl_ m
theorem Qw.trans {a b c:List Blk} (h:Qw a b) (k:Qw b c):Qw a c:=fun w hm=>⟨(k w (h w hm).1).1,fun x hx=>(h w hm).2.1 x ((k w (h w hm).1).2.1 x hx),fun x hx=>(h w hm).2.2 x ((k w (h w hm).1).2.2 x hx)⟩
theorem Qw.drop (m x:List Blk):Qw (m++x) m:=fun _ h =>
 ⟨⟨fun k hk=>h.holds k (List.mem_append_left _ hk),(List.pairwise_append.1 h.sep).1⟩,fun _ ⟨k,hk,h1,h2⟩=>⟨k,List.mem_append_left _ hk,h1,h2⟩,fun _ ⟨k,hk,h1⟩=>⟨k,List.mem_append_left _ hk,h1⟩⟩
theorem Qw.nilRow (m:List Blk) (t:TypeId) (sz:Nat):Qw m (m++[⟨⟨0,0,none⟩,[],.row (.slice none 0 0) t sz 0⟩]):=fun w h =>
 ⟨h.push (Nat.le_refl _) (fun _ _ _ _=>rfl) ⟨World.ownsRow_nil w 0 t sz,rfl⟩ (fun b hb=>by simp [Blk.foot,Blk.bn,Value.ownBlock] at hb),
  fun b hb=>(jO hb).elim id fun e=>by simp [Blk.foot,Blk.bn,Value.ownBlock] at e,fun b hb=>(gU hb).elim id fun e=>by simp [Blk.foot,Blk.bn,Value.ownBlock] at e⟩
theorem NLoop.by {body:List AV→List Blk→Post→Prop} {sl:List AV} {m:List Blk} {Q:Post} {α:Type} (ok:α→Prop) (s:α→List AV) (mm:α→List Blk) (μ:α→Nat)
  (hin:(∃ w,Qx m w)→∃ x,ok x∧Qq sl (s x)∧Qw m (mm x))
  (hround:∀ x,ok x→body (s x) (mm x) fun e sl' m' =>
   match e with
   | .normal=>KnowP m' (∃ x',ok x'∧μ x'<μ x∧Qq sl' (s x')∧Qw m' (mm x'))
   | e=>Q e sl' m'):NLoop body sl m Q:=by
 unfold NLoop
 exact .inl ⟨α,ok,s,mm,μ,hin,hround⟩
theorem NLoop.rounds {body:List AV→List Blk→Post→Prop} {sl:List AV} {m:List Blk} {Q:Post} (n:Nat) (h:roundsK body Q n sl m):NLoop body sl m Q:=by
 unfold NLoop
 exact .inr ⟨n,h⟩
theorem nthK.of {cs:List AV} {o:Nat} {x:AV} {K:AV→Prop} (h:cs[o]?=some x) (hK:K x):nthK cs o K:=by
 induction cs generalizing o with
 | nil=>simp at h
 | cons y cs ih =>
  cases o with
  | zero=>simp at h;subst h;exact hK
  | succ o=>exact ih (by simpa using h)
theorem cellsK.of {cs xs:List AV} {o n:Nat} {K:List AV→Prop} (h:o+n≤cs.length) (e:(cs.drop o).take n=xs) (hK:K xs):cellsK cs o n K:=by
 subst e
 induction cs generalizing o n K with
 | nil =>
  simp at h
  obtain ⟨rfl,rfl⟩:=h
  exact hK
 | cons y cs ih =>
  cases o with
  | zero =>
   cases n with
   | zero=>exact hK
   | succ n=>exact ih (o:=0) (K:=fun ys=>K (y::ys)) (by simp at h ⊢;omega) (by simpa using hK)
  | succ o=>exact ih (o:=o) (K:=K) (by simp at h;omega) (by simpa using hK)
theorem putK.of {cs vs:List AV} {o:Nat} {K:List AV→Prop} (h:o+vs.length≤cs.length) (hK:K (cs.take o++vs++cs.drop (o+vs.length))):putK cs o vs K:=by
 induction cs generalizing o vs K with
 | nil =>
  simp at h
  obtain ⟨rfl,rfl⟩:=h
  exact hK
 | cons y cs ih =>
  cases o with
  | zero =>
   cases vs with
   | nil=>simpa [putK] using hK
   | cons v vs=>exact ih (o:=0) (vs:=vs) (K:=fun ys=>K (v::ys)) (by simp at h ⊢;omega) (by simpa using hK)
  | succ o =>
   refine ih (o:=o) (vs:=vs) (K:=fun ys=>K (y::ys)) (by simp at h;omega) ?_
   rw [show o+1+vs.length=(o+vs.length)+1 from by omega] at hK
   simpa using hK
theorem NLd.of {F:Heap} {a:Addr} {u:Value} {K:Value→Prop} (h:F.c a u) (hK:K u):NLd F a K:=jM.2 ⟨u,h,hK⟩
theorem NRd.of {F:Heap} {a:Addr} {n:Nat} {K:List AV→Prop} (cs:List AV) (h1:cs.length=n) (h2:CellsF F a 0 (denL cs)) (hK:K cs):NRd F a n K:=mU.2 ⟨cs,h1,h2,hK⟩
theorem Fit1.hs {n n':Nat} {v v':Value} (h:v=v'):Fit1 (.hs v n) (.hs v' n'):=.inr ⟨by simp,by rw [h];rfl⟩
theorem SlOk.nil:SlOk (.slice none 0 0) 0:=⟨none,0,rfl,Nat.le_refl _,fun _=>rfl⟩
theorem SlOk.cut {v:Value} {n:Nat} (h:SlOk v n) (sz:Nat) {lo hi:Nat} (h1:lo≤hi) (h2:hi≤n):SlOk (cutSl v sz lo hi) (hi - lo):=by
 obtain ⟨A,c,rfl,hc,hn⟩:=h
 refine ⟨_,_,rfl,by omega,fun hA=>?_⟩
 by_cases hcl:c=lo
 ·omega
 ·rw [if_neg hcl] at hA
  have:=hn (by cases A<;>simp at hA ⊢)
  omega
structure aI {α:Type} (F:Heap) (sz:Nat) (R:α→List Value→Prop) (v:Value) (l:List α):Prop where
 ok:SlOk v l.length
 at_:∀ k x,l[k]?=some x→∃ vs,R x vs∧vs.length=sz∧CellsF F (addrOf v) (k*sz) vs
theorem CellsF.mono {F G:Heap} (hFG:F.le G) {a:Addr}:∀ {o:Nat} {vs:List Value},CellsF F a o vs→CellsF G a o vs
 | _,[],_=>trivial
 | _,_::_,h=>⟨hFG.c _ _ h.1,CellsF.mono hFG h.2⟩
theorem aI.mono {α:Type} {F G:Heap} (hFG:F.le G) {sz:Nat} {R R':α→List Value→Prop} (hR:∀ x vs,R x vs→R' x vs) {v:Value} {l:List α} (h:aI F sz R v l):aI G sz R' v l :=
 ⟨h.ok,fun k x hx=>by obtain ⟨vs,h1,h2,h3⟩:=h.at_ k x hx;exact ⟨vs,hR x vs h1,h2,h3.mono hFG⟩⟩
theorem aI.nil {α:Type} {F:Heap} {sz:Nat} {R:α→List Value→Prop}:aI F sz R (.slice none 0 0) []:=⟨SlOk.nil,fun k x hx=>by simp at hx⟩
theorem lz {v:Value} {n:Nat} (h:SlOk v n) (sz:Nat) {lo hi:Nat} (h1:lo<hi) (h2:hi≤n):addrOf (cutSl v sz lo hi)=(addrOf v).add (lo*sz):=by
 obtain ⟨A,c,rfl,hc,hn⟩:=h
 cases A with
 | none=>have:=hn rfl;omega
 | some a =>
  simp only [cutSl,aw]
  rw [if_neg (by omega)]
  rfl
theorem CellsF.shift {F:Heap} {a:Addr} {d:Nat}:∀ {o:Nat} {vs:List Value},CellsF F a (d+o) vs→CellsF F (a.add d) o vs
 | _,[],_=>trivial
 | o,_::_,h=>⟨by have:=h.1;rwa [← au] at this,CellsF.shift (o:=o+1) (by have:=h.2;rwa [Nat.add_assoc] at this)⟩
theorem aI.cut {α:Type} {F:Heap} {sz:Nat} {R:α→List Value→Prop} {v:Value} {l:List α} (h:aI F sz R v l) {lo hi:Nat} (h1:lo≤hi) (h2:hi≤l.length) :
  aI F sz R (cutSl v sz lo hi) ((l.drop lo).take (hi - lo)):=by
 refine ⟨?_,fun k x hx=>?_⟩
 ·have e:((l.drop lo).take (hi - lo)).length=hi - lo:=by simp;omega
  rw [e];exact h.ok.cut sz h1 h2
 ·rw [List.getElem?_take] at hx
  split at hx
  ·rename_i hk
   rw [List.getElem?_drop] at hx
   obtain ⟨vs,h3,h4,h5⟩:=h.at_ _ x hx
   refine ⟨vs,h3,h4,?_⟩
   rw [lz h.ok sz (by omega) h2]
   refine CellsF.shift ?_
   rwa [← Nat.add_mul]
  ·cases hx
theorem Qz.when {P:Program} {f:FuncId} {args args0:List AV} {m m0:List Blk} {K K0:AV→List Blk→Prop} (h0:Qz P f args0 m0 K0) (h:(∃ w,Qx m w)→Qz P f args m K):Qz P f args m K:=by
 rw [aN] at h0 ⊢
 exact ⟨h0.1,fun w hm=>(aN.1 (h ⟨w,hm⟩)).2 w hm⟩
theorem Qz.isF {P:Program} (f:FuncId) {args:List AV} {m:List Blk} {K:AV→List Blk→Prop} (h:Qz P f args m K):Qz P f args m K:=h
theorem Qz.subE {P:Program} {f:FuncId} {args:List AV} {m:List Blk} {K:AV→List Blk→Prop} {v:AV} {bs:List Blk} (idx:List Nat) {args':List AV} {mL:List Blk} (h:Qz P f args' mL fun r m=>r=v∧m=bs) (hargs:denL args'=denL args)
  (hn:idx.Nodup) (hmL:idx.map (fun i=>m[i]?)=mL.map some) (hl:Nat.ble idx.length bs.length=true) (hK:db m idx bs (K v)):Qz P f args m K :=
 Qz.subw idx args' mL h hargs hn hmL fun r b hr=>by
  obtain ⟨rfl,rfl⟩:=hr
  exact ⟨Nat.le_of_ble_eq_true hl,_,rfl,hK⟩
theorem Qz.pureE {P:Program} {f:FuncId} {args:List AV} {m:List Blk} {K:AV→List Blk→Prop} {v:AV} (h:Qz P f args [] fun r _=>r=v) (hK:K v m):Qz P f args m K :=
 Qz.pure h fun r _ e=>⟨v,by rw [e],hK⟩
theorem NCallQ.pureEq {P:Program} {f:FuncId} {args:List AV} {m:List Blk} {K:AV→Prop} {v:AV} (h:Qz P f args [] fun r _=>r=v) (hK:K v):NCallQ P f args m K :=
 NCallQ.pure (h.mono fun r _ e=>by rw [e]) hK
theorem Qz.know {P:Program} {f:FuncId} {args:List AV} {m:List Blk} {K K':AV→List Blk→Prop} (h:Qz P f args m K)
  (hk:∀ r m',K r m'→(∃ w,Qx m' w)→∃ r' m'',r'.den=r.den∧Qw m' m''∧K' r' m''):Qz P f args m K':=by
 rw [aN] at h ⊢
 refine ⟨h.1,fun w hm=>(h.2 w hm).mono fun e w' hq=>?_⟩
 obtain ⟨r,m',h1,rfl,h3,h4,h5⟩:=hq
 obtain ⟨r',m'',h6,h7,h8⟩:=hk r m' h1 ⟨w',h3⟩
 exact ⟨r',m'',h8,by rw [h6],(h7 w' h3).1,h4,fun b hb=>h5.1 b ((h7 w' h3).2.1 b hb),fun b hb=>h5.2 b ((h7 w' h3).2.2 b hb)⟩
theorem Qx.row {m:List Blk} {a:Addr} {cs:List AV} {v:Value} {t:TypeId} {sz n:Nat} {w:World} (h:Qx m w) (hm:⟨a,cs,.row v t sz n⟩∈m):SlOk v n∧cs.length=n*sz∧aw v=v:=by
 obtain ⟨h1,A,cap,rfl,h3,h4,_⟩:=(h.holds _ hm).sl (.inl ⟨t,rfl⟩)
 exact ⟨⟨A,cap,rfl,h3,h4⟩,h1,rfl⟩
theorem CellsF.sub {F:Heap} {a:Addr}:∀ {o:Nat} {vs:List Value} (i n:Nat),CellsF F a o vs→CellsF F a (o+i) ((vs.drop i).take n)
 | _,_,_,0,_=>by rw [List.take_zero];trivial
 | _,[],_,_+1,_=>by simp [CellsF]
 | o,v::vs,0,n+1,h=>by
  rw [List.drop_zero,List.take_succ_cons]
  exact ⟨h.1,by simpa using CellsF.sub 0 n h.2⟩
 | o,v::vs,i+1,n+1,h=>by
  have:=CellsF.sub i (n+1) h.2
  rw [show o+(i+1)=o+1+i from by omega]
  simpa using this
theorem flat_at {α β:Type} {enc:α→List β} {sz:Nat}:∀ {l:List α} {k:Nat} {x:α},(∀ y∈l,(enc y).length=sz)→l[k]?=some x→((l.flatMap enc).drop (k*sz)).take sz=enc x
 | [],_,_,_,h=>by simp at h
 | y::l,0,x,hl,h=>by
  simp at h;subst h
  have:=hl y (by simp)
  simp [List.take_append_of_le_length (Nat.le_of_eq this.symm),List.take_of_length_le (Nat.le_of_eq this)]
 | y::l,k+1,x,hl,h=>by
  have h1:=hl y (by simp)
  have:=flat_at (l:=l) (k:=k) (x:=x) (fun z hz=>hl z (by simp [hz])) (by simpa using h)
  rw [← this,List.flatMap_cons,Nat.add_mul,Nat.one_mul,Nat.add_comm,← List.drop_drop,← h1,List.drop_left]
theorem aM {α:Type} {F:Heap} {enc:α→List Value} {sz:Nat} {v:Value} {l:List α} {vs:List Value} (hok:SlOk v l.length) (he:vs=l.flatMap enc) (hl:∀ x∈l,(enc x).length=sz) :
  aI (addF F (addrOf v) vs) sz (fun x us=>us=enc x) v l:=by
 refine ⟨hok,fun k x hx=>⟨_,rfl,hl x (List.mem_of_getElem? hx),?_⟩⟩
 have:=(addF.new (F:=F) (a:=addrOf v) (vs:=vs)).sub (k*sz) sz
 rw [Nat.zero_add,he,flat_at hl hx] at this
 rw [he]
 exact this
theorem Qz.keep {P:Program} {f:FuncId} {args args':List AV} {m mL:List Blk} {K KL:AV→List Blk→Prop} (h:Qz P f args' mL KL) (hargs:denL args'=denL args) (hm:Qw m mL) (hw:mL.all (fun k=>!k.wr)=true)
  (hK:∀ r mL',KL r mL'→∃ r',r'.den=r.den∧K r' m):Qz P f args m K:=by
 have hno:∀ b,¬ wrs mL b:=fun b ⟨k,hk,h1,_⟩=>by
  have:=List.all_eq_true.1 hw k hk
  rw [h1] at this
  cases this
 refine h.frame hargs (fun w hw'=>⟨(hm w hw').1,fun b hb=>(hno b hb).elim⟩) fun r mL' hr=>?_
 obtain ⟨r',h1,h2⟩:=hK r mL' hr
 exact ⟨r',m,h1,h2,fun w w' h3 _ hf _=>⟨h3.keep hf.size fun k hk b hb=>hf.block b ((h3.holds k hk).lt hb) (hno b),Fresh.self m w⟩⟩
theorem CellsF.append {F:Heap} {a:Addr}:∀ {o:Nat} {us vs:List Value},CellsF F a o us→CellsF F a (o+us.length) vs→CellsF F a o (us++vs)
 | _,[],_,_,h=>h
 | o,u::us,vs,h,h2=>⟨h.1,CellsF.append h.2 (by rw [show o+1+us.length=o+(u::us).length from by simp;omega];exact h2)⟩
theorem aI.all {α:Type} {F:Heap} {enc:α→List Value} {sz:Nat} {v:Value} {l:List α} (h:aI F sz (fun x us=>us=enc x) v l):CellsF F (addrOf v) 0 (l.flatMap enc)∧(l.flatMap enc).length=l.length*sz:=by
 have key:∀ (k:Nat) (r:List α),l.drop k=r→CellsF F (addrOf v) (k*sz) (r.flatMap enc)∧(r.flatMap enc).length=r.length*sz:=by
  intro k r
  induction r generalizing k with
  | nil=>intro _;exact ⟨trivial,by simp⟩
  | cons x r ih =>
   intro e
   have hx:l[k]?=some x:=by
    have:=congrArg (fun t=>t[0]?) e
    simpa using this
   obtain ⟨us,rfl,h1,h2⟩:=h.at_ k x hx
   obtain ⟨h3,h4⟩:=ih (k+1) (by rw [← List.drop_drop,e];rfl)
   refine ⟨?_,?_⟩
   ·rw [List.flatMap_cons]
    refine h2.append ?_
    rw [h1]
    rwa [Nat.add_mul,Nat.one_mul] at h3
   ·rw [List.flatMap_cons,List.length_append,h1,h4,List.length_cons,Nat.add_mul,Nat.one_mul];omega
 have:=key 0 l rfl
 rwa [Nat.zero_mul] at this
theorem Qz.frozen {α:Type} {P:Program} {f:FuncId} {args args' args0:List AV} {m m0:List Blk} {K K0:AV→List Blk→Prop} {F:Heap} {v:Value} {l:List α} {cs:List AV} {t:TypeId} {sz n:Nat} (enc:α→List Value)
  (h0:Qz P f args0 m0 K0) (hargs:denL args'=denL args) (hm:Qw m [hpB F,⟨addrOf v,cs,.row v t sz n⟩]) (hn:n=l.length) (hcs:denL cs=l.flatMap enc) (hl:∀ x∈l,(enc x).length=sz)
  (h:∀ G,F.le G→aI G sz (fun x us=>us=enc x) v l→Qz P f args' [hpB G] fun r _=>K r m):Qz P f args m K:=by
 refine Qz.when h0 fun ⟨w,hw⟩=>?_
 have hok:=((hm w hw).1.row (List.mem_cons_of_mem _ (List.mem_singleton.2 rfl))).1
 subst hn
 refine Qz.keep (h (addF F (addrOf v) (denL cs)) addF.old (aM hok hcs hl)) hargs (hm.trans (Qw.freeze (m:=[]))) rfl fun r _ hr=>⟨r,rfl,hr⟩
def thenS (P:Program) (b:Code) (Q:Post):Post:=fun e sl m=>match e with
 | .normal=>codeK P b sl m Q
 | e=>Q e sl m
def eU (id:Nat) (Q:Post):Post:=fun e sl m=>match e with
 | .exit j=>match Nat.decEq j id with
  | .isTrue _=>Q .normal sl m
  | .isFalse _=>Q (.exit j) sl m
 | e=>Q e sl m
def fN (Q:Post):List AV→List Blk→Prop:=fun sl m=>Q .normal sl m
def oQ (P:Program) (fn:Func) (R:AV→List Blk→Prop):Post:=fun e sl m=>match e with
 | .normal=>resK P m sl fn.results.toList fun xs=>retK xs fun r=>R r m
 | .ret=>resK P m sl fn.results.toList fun xs=>retK xs fun r=>R r m
 | _=>False
def bd {α:Type} (ok:α→Prop) (s:α→List AV) (mm:α→List Blk) (μ:α→Nat) (x:α) (Q:Post):Post:=fun e sl m=>match e with
 | .normal=>KnowP m (∃ x',ok x'∧μ x'<μ x∧Qq sl (s x')∧Qw m (mm x'))
 | e=>Q e sl m
section
variable {P:Program} {Q:Post} {sl:List AV} {m:List Blk} {a b c:Code} {id j:Nat}
theorem z33 {fn:Func} {c:Code} {args:List AV} {R:AV→List Blk→Prop} (hb:fn.body=some c) (h:∀ K:List AV→Prop,(∀ sl,codeK P c sl m (oQ P fn R)→K sl)→argK args fn.ntmps K):funcK P fn args m R:=by
 unfold funcK
 rw [hb]
 exact h _ fun _ h=>h
theorem z3 (h:codeK P a sl m (thenS P b Q)):codeK P (.seq a b) sl m Q:=h
theorem z5 (h:codeK P a sl m (eU id Q)):codeK P (.block id a) sl m Q:=h
theorem z4 {l:List Oper} (h:opsK P l.toArray l sl m (fN Q)):codeK P (.region id l.toArray false) sl m Q:=by
 simp only [codeK]
 exact h
theorem z34 {l:List Oper} (h1:P.follows .mixedOrders=true) (h2:Region.lexB .any l.toArray=true) (h:opsQ P l.toArray l sl m (fN Q)):codeK P (.region id l.toArray true) sl m Q:=by
 simp only [codeK]
 exact j7 h1 h2 h
theorem z35 {l:List Oper} (h1:P.follows .mixedOrders=true) (n:Nat) (hn:l.length=n) (h:eA P l n [] sl m (fN Q)):codeK P (.region id l.toArray true) sl m Q:=by
 simp only [codeK]
 exact nE h1 n hn h
theorem z6 (h:Q .normal sl m):codeK P .skip sl m Q:=h
theorem z7 (h:Q (.exit id) sl m):codeK P (.exit id) sl m Q:=h
theorem z8 (h:Q .ret sl m):codeK P .ret sl m Q:=h
theorem z29 {o:Operand} (h:∀ A B:Prop,(codeK P a sl m Q→A)→(codeK P b sl m Q→B)→evK sl o fun v=>match v with
  | .bool x=>NIf x A B
  | _=>False):codeK P (.cond o a b) sl m Q:=h _ _ (fun h=>h) (fun h=>h)
theorem ik {α:Type} (ok:α→Prop) (s:α→List AV) (mm:α→List Blk) (μ:α→Nat) (x:α) (hx:ok x) (hs:Qq sl (s x)) (hm:Qw m (mm x))
  (hround:∀ x,ok x→codeK P a (s x) (mm x) (bd ok s mm μ x Q)):codeK P (.loop a) sl m Q:=NLoop.by ok s mm μ (fun _=>⟨x,hx,hs,hm⟩) hround
theorem oI {α:Type} (ok:α→Prop) (s:α→List AV) (mm:α→List Blk) (μ:α→Nat) (hin:(∃ w,Qx m w)→∃ x,ok x∧Qq sl (s x)∧Qw m (mm x))
  (hround:∀ x,ok x→codeK P a (s x) (mm x) (bd ok s mm μ x Q)):codeK P (.loop a) sl m Q:=NLoop.by ok s mm μ hin hround
def kD (P:Program) (a:Code) (n:Nat) (Q:Post):Post:=fun e sl m=>match e with
 | .normal=>roundsK (codeK P a) Q n sl m
 | e=>Q e sl m
theorem bQ (n:Nat) (h:codeK P a sl m (kD P a n Q)):codeK P (.loop a) sl m Q:=NLoop.rounds (n+1) h
theorem z21 {n:Nat} (h:codeK P a sl m (kD P a n Q)):kD P a (n+1) Q .normal sl m:=h
theorem z22 {n:Nat} (h:Q (.exit j) sl m):kD P a n Q (.exit j) sl m:=h
theorem z23 {n:Nat} (h:Q .ret sl m):kD P a n Q .ret sl m:=h
theorem z2 (h:codeK P b sl m Q):thenS P b Q .normal sl m:=h
theorem z11 (h:Q (.exit j) sl m):thenS P b Q (.exit j) sl m:=h
theorem z12 (h:Q .ret sl m):thenS P b Q .ret sl m:=h
theorem z9 (h:Q .normal sl m):eU id Q .normal sl m:=h
theorem z13 (h:Q .ret sl m):eU id Q .ret sl m:=h
theorem z10 (h:Q .normal sl m):eU id Q (.exit id) sl m:=by
 unfold eU
 split
 ·rename_i heq;injection heq with heq;subst heq
  split
  ·exact h
  ·rename_i hn _;exact (hn rfl).elim
 ·rename_i hn;exact (hn id rfl).elim
theorem gR {P:Program} {fn:Func} {R:AV→List Blk→Prop} {e:Exit} {sl:List AV} {m:List Blk} (h:oQ P fn R e sl m):oQ P fn R e sl m:=h
theorem gF {P:Program} {fn:Func} {args:List AV} {m:List Blk} {R:AV→List Blk→Prop} (h:funcK P fn args m R):funcK P fn args m R:=h
theorem z1 (h:Q .normal sl m):fN Q sl m:=h
theorem z31 {fn:Func} {R:AV→List Blk→Prop} {rs:List ResultVar} (hr:fn.results.toList=rs) (h:∀ K:AV→Prop,(∀ r,R r m→K r)→resK P m sl rs fun xs=>retK xs K):oQ P fn R .ret sl m:=by
 show resK P m sl fn.results.toList _
 rw [hr]
 exact h _ fun _ h=>h
theorem z32 {fn:Func} {R:AV→List Blk→Prop} {rs:List ResultVar} (hr:fn.results.toList=rs) (h:∀ K:AV→Prop,(∀ r,R r m→K r)→resK P m sl rs fun xs=>retK xs K):oQ P fn R .normal sl m:=by
 show resK P m sl fn.results.toList _
 rw [hr]
 exact h _ fun _ h=>h
section
variable {α:Type} {ok:α→Prop} {s:α→List AV} {mm:α→List Blk} {μ:α→Nat} {x:α}
theorem aC (x':α) (h1:ok x') (h2:μ x'<μ x) (h3:Qq sl (s x')) (h4:Qw m (mm x')):bd ok s mm μ x Q .normal sl m:=KnowP.mk fun _=>⟨x',h1,h2,h3,h4⟩
theorem z19 (h:Q (.exit j) sl m):bd ok s mm μ x Q (.exit j) sl m:=h
theorem z20 (h:Q .ret sl m):bd ok s mm μ x Q .ret sl m:=h
end
section
variable {ops:Array Oper} {o:Oper} {rest:List Oper} {k:List AV→List Blk→Prop}
theorem z0 (h:k sl m):opsK P ops [] sl m k:=h
theorem z25 {d:Option Tmp} {op:Op} {t:TypeId} {p:String} {e:Array Edge} (h:∀ K:List AV→List Blk→Prop,(∀ sl m,opsK P ops rest sl m k→K sl m)→opM P sl m op fun v m'=>dstK sl d v fun sl'=>K sl' m') :
  opsK P ops (⟨d,op,t,p,e,none⟩::rest) sl m k:=h _ fun _ _ h=>h
theorem z26 {d:Option Tmp} {op:Op} {t:TypeId} {p:String} {e:Array Edge} {g:Nat × Bool} (h:∀ K:List AV→List Blk→Prop,(∀ sl m,opsK P ops rest sl m k→K sl m)→guardK ops sl g.1 g.2 (opM P sl m op fun v m'=>dstK sl d v fun sl'=>K sl' m') (dstK sl d (.raw undef) fun sl'=>K sl' m)) :
  opsK P ops (⟨d,op,t,p,e,some g⟩::rest) sl m k:=h _ fun _ _ h=>h
theorem z24 (h:k sl m):opsQ P ops [] sl m k:=h
theorem z27 {d:Option Tmp} {op:Op} {t:TypeId} {p:String} {e:Array Edge} (h:∀ K:List AV→List Blk→Prop,(∀ sl m,opsQ P ops rest sl m k→K sl m)→opQ P sl m op fun v=>dstK sl d v fun sl'=>K sl' m) :
  opsQ P ops (⟨d,op,t,p,e,none⟩::rest) sl m k:=h _ fun _ _ h=>h
theorem z28 {d:Option Tmp} {op:Op} {t:TypeId} {p:String} {e:Array Edge} {g:Nat × Bool} (h:∀ K:List AV→List Blk→Prop,(∀ sl m,opsQ P ops rest sl m k→K sl m)→guardK ops sl g.1 g.2 (opQ P sl m op fun v=>dstK sl d v fun sl'=>K sl' m) (dstK sl d (.raw undef) fun sl'=>K sl' m)) :
  opsQ P ops (⟨d,op,t,p,e,some g⟩::rest) sl m k:=h _ fun _ _ h=>h
end
end
inductive Up where
 | k | d | set (v:AV)
def bq:List AV→List Up→List AV
 | x::xs,.k::us=>x::bq xs us
 | _::xs,.d::us=>.any::bq xs us
 | _::xs,.set v::us=>v::bq xs us
 | _,_=>[]
inductive UpB where
 | k | cells (cs:List AV) | set (b:Blk)
def autoM:List Blk→List UpB→List Blk
 | b::m,.k::us=>b::autoM m us
 | b::m,.cells cs::us=>{ b with cs:=cs }::autoM m us
 | _::m,.set b::us=>b::autoM m us
 | [],.set b::us=>b::autoM [] us
 | m,[]=>m
 | [],_::us=>autoM [] us
def fU:List AV→List Up→(List AV→Prop)→Prop
 | x::xs,.k::us,k=>fU xs us fun ys=>k (x::ys)
 | _::xs,.d::us,k=>fU xs us fun ys=>k (.any::ys)
 | _::xs,.set v::us,k=>fU xs us fun ys=>k (v::ys)
 | _,_,k=>k []
def dB:List Blk→List UpB→(List Blk→Prop)→Prop
 | b::m,.k::us,k=>dB m us fun ys=>k (b::ys)
 | b::m,.cells cs::us,k=>dB m us fun ys=>k ({ b with cs:=cs }::ys)
 | _::m,.set b::us,k=>dB m us fun ys=>k (b::ys)
 | [],.set b::us,k=>dB [] us fun ys=>k (b::ys)
 | m,[],k=>k m
 | [],_::us,k=>dB [] us k
theorem bP:∀ (xs:List AV) (us:List Up) {k:List AV→Prop},fU xs us k→k (bq xs us)
 | x::xs,.k::us,k,h=>bP xs us (k:=fun ys=>k (x::ys)) h
 | _::xs,.d::us,k,h=>bP xs us (k:=fun ys=>k (.any::ys)) h
 | _::xs,.set v::us,k,h=>bP xs us (k:=fun ys=>k (v::ys)) h
 | [],[],_,h=>h
 | [],_::_,_,h=>h
 | _::_,[],_,h=>h
theorem ap:∀ (us:List UpB) (m:List Blk) {k:List Blk→Prop},dB m us k→k (autoM m us)
 | .k::us,b::m,k,h=>ap us m (k:=fun ys=>k (b::ys)) h
 | .cells cs::us,b::m,k,h=>ap us m (k:=fun ys=>k ({ b with cs:=cs }::ys)) h
 | .set b::us,_::m,k,h=>ap us m (k:=fun ys=>k (b::ys)) h
 | .set b::us,[],k,h=>ap us [] (k:=fun ys=>k (b::ys)) h
 | [],[],_,h=>h
 | [],_::_,_,h=>h
 | .k::us,[],_,h=>ap us [] h
 | .cells _::us,[],_,h=>ap us [] h
theorem aE {P:Program} {Q:Post} {sl:List AV} {m:List Blk} {a:Code} {α:Type} (ok:α→Prop) (us:α→List Up) (ms:α→List UpB) (μ:α→Nat) (x:α) (hx:ok x) (hs:Qq sl (bq sl (us x))) (hm:Qw m (autoM m (ms x)))
  (hround:∀ x,ok x→∀ K:List AV→List Blk→Prop,(∀ sl' m',codeK P a sl' m' (bd ok (fun x=>bq sl (us x)) (fun x=>autoM m (ms x)) μ x Q)→K sl' m')→fU sl (us x) fun sl'=>dB m (ms x) fun m'=>K sl' m'):codeK P (.loop a) sl m Q :=
 ik ok (fun x=>bq sl (us x)) (fun x=>autoM m (ms x)) μ x hx hs hm fun y hy=>by
  have h:=hround y hy (fun sl' m'=>codeK P a sl' m' (bd ok (fun x=>bq sl (us x)) (fun x=>autoM m (ms x)) μ y Q)) fun _ _ h=>h
  exact ap _ _ (bP _ _ h)
theorem oJ {P:Program} {Q:Post} {sl:List AV} {m:List Blk} {a:Code} {α:Type} (ok:α→Prop) (us:α→List Up) (ms:α→List UpB) (μ:α→Nat) (hin:(∃ w,Qx m w)→∃ x,ok x∧Qq sl (bq sl (us x))∧Qw m (autoM m (ms x)))
  (hround:∀ x,ok x→∀ K:List AV→List Blk→Prop,(∀ sl' m',codeK P a sl' m' (bd ok (fun x=>bq sl (us x)) (fun x=>autoM m (ms x)) μ x Q)→K sl' m')→fU sl (us x) fun sl'=>dB m (ms x) fun m'=>K sl' m'):codeK P (.loop a) sl m Q :=
 oI ok (fun x=>bq sl (us x)) (fun x=>autoM m (ms x)) μ hin fun y hy=>by
  have h:=hround y hy (fun sl' m'=>codeK P a sl' m' (bd ok (fun x=>bq sl (us x)) (fun x=>autoM m (ms x)) μ y Q)) fun _ _ h=>h
  exact ap _ _ (bP _ _ h)
theorem Qw.freezeVar {F:Heap} {a:Addr} {cs:List AV} {t:TypeId} {m:List Blk}:Qw (hpB F::⟨a,cs,.var t⟩::m) (hpB (addF F a (denL cs))::m):=fun w hm=>by
 have h1:=hm.holds (hpB F) (by simp)
 have h2:=hm.holds ⟨a,cs,.var t⟩ (by simp)
 have hs:=hm.sep
 simp only [List.pairwise_cons] at hs
 have hf:∀ b,(hpB (addF F a (denL cs))).foot b→(hpB F).foot b∨(⟨a,cs,.var t⟩:Blk).foot b:=by
  rintro b (⟨x,u,hu,rfl⟩ | ⟨o,ho⟩)
  ·rcases hu with hu | ⟨j,rfl,hj⟩
   ·exact .inl (.inl ⟨x,u,hu,rfl⟩)
   ·exact .inr (by rw [ab];rfl)
  ·exact .inl (.inr ⟨o,ho⟩)
 refine ⟨⟨fun k hk=>?_,?_⟩,fun b ⟨k,hk,hw,hb⟩=>?_,fun b ⟨k,hk,hb⟩=>?_⟩
 ·rcases List.mem_cons.1 hk with rfl | hk
  ·refine ⟨rfl,fun b u hu=>?_,fun b o ho=>h1.2.2 b o ho⟩
   rcases hu with hu | ⟨j,rfl,hj⟩
   ·exact h1.2.1 b u hu
   ·rw [an] at hj
    cases hx:cs[j]? with
    | none=>rw [hx] at hj;cases hj
    | some x =>
     rw [hx] at hj
     injection hj with hj
     have h4:=h2.cell hx
     rw [← hj]
     refine ⟨?_,h4⟩
     rw [ab]
     exact h2.lt (b:=a.block) rfl
  ·exact hm.holds k (by simp [hk])
 ·rw [List.pairwise_cons]
  refine ⟨fun y hy hw b hb1 hb2=>?_,hs.2.2⟩
  have hyw:y.wr=true:=by
   rcases hw with hw | hw
   ·cases hw
   ·exact hw
  rcases hf b hb1 with h | h
  ·exact hs.1 y (by simp [hy]) (.inr hyw) b h hb2
  ·exact hs.2.1 y hy (.inr hyw) b h hb2
 ·rcases List.mem_cons.1 hk with rfl | hk
  ·cases hw
  ·exact ⟨k,by simp [hk],hw,hb⟩
 ·rcases List.mem_cons.1 hk with rfl | hk
  ·rcases hf b hb with h | h
   ·exact ⟨_,by simp,h⟩
   ·exact ⟨⟨a,cs,.var t⟩,by simp,h⟩
  ·exact ⟨k,by simp [hk],hb⟩
theorem Blk.holds_congr {k k':Blk} {w:World} (ha:k.a=k'.a) (hc:denL k.cs=denL k'.cs) (hk:k.kind=k'.kind) (h:k.holds w):k'.holds w:=by
 obtain ⟨a,cs,kind⟩:=k
 obtain ⟨a',cs',kind'⟩:=k'
 dsimp only at ha hc hk
 subst ha hk
 have hl:cs.length=cs'.length:=by have:=congrArg List.length hc;simpa [aF] using this
 cases kind with
 | var t=>exact ⟨h.1,h.2.1,by rw [← hc];exact h.2.2⟩
 | row v t sz n=>exact ⟨by rw [← hc];exact h.1,h.2⟩
 | ro v sz n =>
  obtain ⟨h1,A,cap,h2,h3,h4,h5⟩:=h
  exact ⟨hl ▸ h1,A,cap,h2,h3,h4,fun hn=>⟨(h5 hn).1,(h5 hn).2.1,by rw [← hc];exact (h5 hn).2.2⟩⟩
 | heap F =>
  obtain ⟨h1,h2⟩:=h
  refine ⟨?_,h2⟩
  dsimp only at h1
  subst h1
  exact List.eq_nil_of_length_eq_zero hl.symm
 | obj o =>
  obtain ⟨h1,h2⟩:=h
  refine ⟨?_,h2⟩
  dsimp only at h1
  subst h1
  exact List.eq_nil_of_length_eq_zero hl.symm
 | res R =>
  obtain ⟨h1,h2⟩:=h
  refine ⟨?_,h2⟩
  dsimp only at h1
  subst h1
  exact List.eq_nil_of_length_eq_zero hl.symm
theorem Qw.congr {m m':List Blk} (h:m.map (fun k=>(k.a,denL k.cs,k.kind))=m'.map fun k=>(k.a,denL k.cs,k.kind)):Qw m m':=fun w hm=>by
 have hlen:m.length=m'.length:=by simpa using congrArg List.length h
 have hat:∀ (i:Nat) (k':Blk),m'[i]?=some k'→∃ k,m[i]?=some k∧k.a=k'.a∧denL k.cs=denL k'.cs∧k.kind=k'.kind:=fun i k' hk=>by
  have e:=congrArg (fun l=>l[i]?) h
  simp only [List.getElem?_map,hk,Option.map_some] at e
  rcases hi:m[i]? with _ | k
  ·rw [hi] at e;cases e
  ·rw [hi] at e
   simp only [Option.map_some,Option.some.injEq,Prod.mk.injEq] at e
   exact ⟨k,rfl,e.1,e.2.1,e.2.2⟩
 have hfoot:∀ {k k':Blk},k.a=k'.a→k.kind=k'.kind→k.wr=k'.wr∧k.bn=k'.bn∧∀ b,k.foot b↔k'.foot b:=fun {k k'} h1 h2=>by
  obtain ⟨a,cs,kind⟩:=k
  obtain ⟨a',cs',kind'⟩:=k'
  dsimp only at h1 h2
  subst h1 h2
  exact ⟨rfl,rfl,fun b=>Iff.rfl⟩
 refine ⟨⟨fun k' hk'=>?_,eo fun i j x y hij hx hy=>?_⟩,fun b ⟨k',hk',hw,hb⟩=>?_,fun b ⟨k',hk',hb⟩=>?_⟩
 ·obtain ⟨i,hi⟩:=List.getElem?_of_mem hk'
  obtain ⟨k,h1,h2,h3,h4⟩:=hat i k' hi
  exact Blk.holds_congr h2 h3 h4 (hm.holds k (List.mem_of_getElem? h1))
 ·obtain ⟨x',h1,h2,_,h4⟩:=hat i x hx
  obtain ⟨y',h5,h6,_,h8⟩:=hat j y hy
  obtain ⟨a1,_,a3⟩:=hfoot h2 h4
  obtain ⟨b1,_,b3⟩:=hfoot h6 h8
  intro hww b hb1 hb2
  exact bc hm.sep (by omega) h1 h5 (by rw [a1,b1];exact hww) b ((a3 b).2 hb1) ((b3 b).2 hb2)
 ·obtain ⟨i,hi⟩:=List.getElem?_of_mem hk'
  obtain ⟨k,h1,h2,_,h4⟩:=hat i k' hi
  obtain ⟨a1,_,a2⟩:=hfoot h2 h4
  exact ⟨k,List.mem_of_getElem? h1,by rw [a1];exact hw,(a2 b).2 hb⟩
 ·obtain ⟨i,hi⟩:=List.getElem?_of_mem hk'
  obtain ⟨k,h1,h2,_,h4⟩:=hat i k' hi
  exact ⟨k,List.mem_of_getElem? h1,((hfoot h2 h4).2.2 b).2 hb⟩
theorem Qw.pre {m m':List Blk} (n:Nat) (e:m.take n=m'):Qw m m':=by
 subst e
 have:=Qw.drop (m.take n) (m.drop n)
 rwa [List.take_append_drop] at this
open Go.RowKit Go.ChangeShapes Go.WideShapes
def bZ (W:World):Heap:=⟨fun a u=>a.block<W.heap.size∧W.cell? a=some u,fun b o=>W.heap[b]?=some o⟩
theorem qT {w:World} {a:Addr} {u:Value} (h:w.cell? a=some u):a.block<w.heap.size:=by
 unfold World.cell? at h
 rcases Nat.lt_or_ge a.block w.heap.size with h1 | h1
 ·exact h1
 ·rw [Array.getElem?_eq_none h1] at h
  simp at h
theorem ez {W:World} {a:Addr}:∀ (cs:List Value) (o:Nat),(∀ i u,cs[i]?=some u→W.cell? (a.add (o+i))=some u)→CellsF (bZ W) a o cs
 | [],_,_=>trivial
 | v::cs,o,h=>by
  have h0:=h 0 v rfl
  exact ⟨⟨qT h0,h0⟩,ez cs (o+1) fun i u hu=>by
   have:=h (i+1) u (by simpa using hu)
   rwa [show o+(i+1)=o+1+i from by omega] at this⟩
theorem lZ (W:World):Qx [hpB (bZ W)] W:=⟨fun k hk=>by
 simp at hk
 subst hk
 exact ⟨rfl,fun _ _ h=>h,fun _ _ h=>h⟩,by simp⟩
theorem lr {F:Heap} {w w':World} (h:Fr (wrs [hpB F]) w w'):Below w.heap.size w w' :=
 ⟨h.os,h.tape,h.output,h.size,fun k hk=>h.block k hk (fun ⟨b,hb,hw,_⟩=>by
  simp at hb
  subst hb
  cases hw)⟩
section
variable {H:Type} {enc:TypeId × Value→H} {P:Program} {W:World} {spare:Nat→Bool} {held:Bool}
end
theorem aI.get3 {α:Type} {F:Heap} {v:Value} {l:List α} {f0 f1 f2:α→Value} (h:aI F 3 (fun x vs=>vs=[f0 x,f1 x,f2 x]) v l) {k:Nat} (hk:k<l.length) :
  F.c ((addrOf v).add (k*3)) (f0 (l[k]'hk))∧F.c ((addrOf v).add (k*3+1)) (f1 (l[k]'hk))∧F.c ((addrOf v).add (k*3+2)) (f2 (l[k]'hk)):=by
 obtain ⟨vs,rfl,_,h1⟩:=h.at_ k _ (List.getElem?_eq_getElem hk)
 simpa [CellsF,Nat.add_assoc] using h1
theorem aI.get5 {α:Type} {F:Heap} {v:Value} {l:List α} {f0 f1 f2 f3 f4:α→Value} (h:aI F 5 (fun x vs=>vs=[f0 x,f1 x,f2 x,f3 x,f4 x]) v l) {k:Nat} (hk:k<l.length) :
  F.c ((addrOf v).add (k*5)) (f0 (l[k]'hk))∧F.c ((addrOf v).add (k*5+1)) (f1 (l[k]'hk))∧F.c ((addrOf v).add (k*5+2)) (f2 (l[k]'hk))∧F.c ((addrOf v).add (k*5+3)) (f3 (l[k]'hk))∧F.c ((addrOf v).add (k*5+4)) (f4 (l[k]'hk)):=by
 obtain ⟨vs,rfl,_,h1⟩:=h.at_ k _ (List.getElem?_eq_getElem hk)
 simpa [CellsF,Nat.add_assoc] using h1
theorem mJ {α:Type} {n:Nat} {p:Nat→α→Prop} (h:∀ i,i<n→∃ x,p i x):∃ l:List α,l.length=n∧∀ i x,l[i]?=some x→p i x:=by
 induction n with
 | zero=>exact ⟨[],rfl,fun i x hx=>by simp at hx⟩
 | succ n ih =>
  obtain ⟨l,h1,h2⟩:=ih fun i hi=>h i (Nat.lt_succ_of_lt hi)
  obtain ⟨x,hx⟩:=h n (Nat.lt_succ_self n)
  refine ⟨l++[x],by simp [h1],fun i y hy=>?_⟩
  rw [List.getElem?_append] at hy
  split at hy
  ·exact h2 i y hy
  ·rename_i hi
   have:i=n:=by
    rcases Nat.lt_or_ge (i - l.length) 1 with h | h
    ·omega
    ·rw [List.getElem?_eq_none (by simpa using h)] at hy;cases hy
   subst this
   rw [h1,Nat.sub_self] at hy
   simp at hy
   subst hy
   exact hx
structure bC (p:Prop):Prop where
 go:p
theorem dY {G G':Prop} (r:G') (h:bC G'→G:=by
 intro r
 (first|((first|((with_reducible refine gV ?_);(first|((with_reducible first|refine NV.quo ?s ?_|refine NV.rem ?s ?_|refine NV.i64 ?s ?_|refine NV.u32 ?s ?_|refine NV.u8 ?s ?_|refine NV.u64 ?s ?_);case s=>omega)|(with_reducible first|refine NV.divk ?_|refine NV.modk ?_|refine NV.keep ?_)))|((with_reducible refine gI ?_);(first|with_reducible refine NIf.not_ ?_|((with_reducible refine NIf.decY ?s ?_);case s=>first|with_reducible rfl|assumption|omega)|((with_reducible refine NIf.decN ?s ?_);case s=>first|with_reducible rfl|assumption|omega)|((with_reducible refine NIf.yes ?s ?_);case s=>first|rfl|assumption)|((with_reducible refine NIf.no ?s ?_);case s=>first|rfl|assumption)))|((with_reducible refine gN ?_);(with_reducible first|refine NN.lit ?_|refine NN.cast ?_|refine NN.a1 ?_|refine NN.a2 ?_|refine NN.a3 ?_|refine NN.a4 ?_|refine NN.a5 ?_|refine NN.a6 ?_|refine NN.keep ?_))|((with_reducible refine gH ?_);((with_reducible refine NH.mk ?s ?_);case s=>(and_intros<;>first|with_reducible rfl|((with_reducible refine fP ?_);rfl)|((with_reducible refine kM ?_);rfl)|omega|assumption|exact Nat.le_of_ble_eq_true rfl|(simp only [List.length_append,List.length_cons,List.length_nil];omega)|rfl)))|(with_reducible refine NS.keep ?_)|(with_reducible refine NLd.of (by with_reducible assumption) ?_))<;>(conv=>whnf))|((refine bL.2 ⟨⟨?s1,?s2⟩,?_⟩;(case s1=>decide +kernel);(case s2=>decide +kernel))<;>(conv=>whnf)))
 exact r.go):G:=h ⟨r⟩
theorem eG {G G':Prop} (r:G') (h:bC G'→G:=by
 intro r
 (first|((with_reducible refine gO ?_);(with_reducible first|refine z25 ?_|refine z26 ?_))|((with_reducible refine gP ?_);(with_reducible first|refine z27 ?_|refine z28 ?_))|((with_reducible refine gR ?_);(first|refine z31 rfl ?_|refine z32 rfl ?_))|((with_reducible refine gF ?_);(refine z33 rfl ?_)))
 exact r.go):G:=h ⟨r⟩
theorem eF {G G':Prop} (r:G') (h:bC G'→G:=by
 intro r
 (first|((with_reducible refine gO ?_);(with_reducible first|refine z0 ?_))|((with_reducible refine gP ?_);(with_reducible first|refine z24 ?_))|((with_reducible refine gX ?_);(with_reducible first|refine z3 ?_|refine z4 ?_|refine z5 ?_|refine z6 ?_|refine z7 ?_|refine z8 ?_|refine z14 ?_|refine z15 ?_))|(with_reducible first|refine z1 ?_|refine z2 ?_|refine z9 ?_|refine z10 ?_|refine z11 ?_|refine z12 ?_|refine z13 ?_|refine z16 ?_|refine z17 ?_|refine z18 ?_|refine z19 ?_|refine z20 ?_|refine z21 ?_|refine z22 ?_|refine z23 ?_)|((with_reducible refine gB ?_);(refine z30 (by decide) ?_)))
 exact r.go):G:=h ⟨r⟩
theorem eH {G G':Prop} (r:G') (h:bC G'→G:=by
 intro r
 (first|((with_reducible refine gX ?_);(with_reducible refine z29 ?_)))
 exact r.go):G:=h ⟨r⟩
theorem aD {a b:List AV} (h:Qq a b:=by repeat (first | exact Qq.nil | refine Qq.any ?_ | refine Qq.cons (Fit1.int (by first | rfl | omega)) ?_ | refine Qq.cons (Fit1.bool rfl) ?_ | refine Qq.cons (Fit1.str rfl) ?_ | refine Qq.cons (Fit1.same (by intro h;cases h) (by with_reducible rfl)) ?_ | refine Qq.cons Fit1.nil_sl ?_ | refine Qq.cons (Fit1.hs rfl) ?_ | refine Qq.cons (Fit1.hp rfl rfl) ?_ | refine Qq.cons (Fit1.sl rfl) ?_ | refine Qq.cons (Fit1.ptr rfl rfl) ?_ | refine Qq.cons Fit1.raw ?_)):Qq a b:=h
theorem cE {P:Program} {f:FuncId} {args:List AV} {m:List Blk} {K:AV→List Blk→Prop} {v:AV} {bs:List Blk} (idx:List Nat) {args':List AV} {mL:List Blk} (h:Qz P f args' mL fun r m=>r=v∧m=bs) (hargs:denL args'=denL args)
  (hmL:idx.map (fun i=>m[i]?)=mL.map some) (hK:db m idx bs (K v)) (hn:idx.Nodup:=by decide) (hl:Nat.ble idx.length bs.length=true:=by exact rfl):Qz P f args m K :=
 Qz.subE idx h hargs hn hmL hl hK
theorem cP {P:Program} {f:FuncId} {args:List AV} {m:List Blk} {K:AV→List Blk→Prop} {G':Prop} {v:AV} (h:Qz P f args [] fun r _=>r=v) (r:G') (hK:bC G'→K v m:=by intro r;(conv=>whnf);exact r.go):Qz P f args m K:=Qz.pureE h (hK ⟨r⟩)
theorem cS {P:Program} {f:FuncId} {args:List AV} {m:List Blk} {K:AV→List Blk→Prop} {G':Prop} {v:AV} {bs:List Blk} (idx:List Nat) {args':List AV} {mL:List Blk} (h:Qz P f args' mL fun r m=>r=v∧m=bs) (r:G') (hK:bC G'→db m idx bs (K v):=by intro r;(conv=>whnf);exact r.go) (hargs:denL args'=denL args:=by exact rfl) (hmL:idx.map (fun i=>m[i]?)=mL.map some:=by exact rfl) (hn:idx.Nodup:=by decide) (hl:Nat.ble idx.length bs.length=true:=by exact rfl):Qz P f args m K :=
 Qz.subE idx h hargs hn hmL hl (hK ⟨r⟩)
theorem cN {P:Program} {f:FuncId} {args:List AV} {m:List Blk} {K KL:AV→List Blk→Prop} (idx:List Nat) {args':List AV} {mL:List Blk} (h:Qz P f args' mL KL) (hK:∀ r bs,KL r bs→Nat.ble idx.length bs.length=true∧∃ r',r'.den=r.den∧db m idx bs (K r')) (hargs:denL args'=denL args:=by exact rfl) (hmL:idx.map (fun i=>m[i]?)=mL.map some:=by exact rfl) (hn:idx.Nodup:=by decide):Qz P f args m K :=
 Qz.subw idx args' mL h hargs hn hmL fun r bs hr=>⟨Nat.le_of_ble_eq_true (hK r bs hr).1,(hK r bs hr).2⟩
theorem cR {p:Prop} {K:AV→Prop} {r:AV} {G':Prop} (g:G') (h:bC G'→K r:=by intro r;(conv=>whnf);exact r.go) (hp:p:=by exact rfl):p∧∃ r',r'.den=r.den∧K r':=⟨hp,r,rfl,h ⟨g⟩⟩
structure rK (js:List Nat):Prop where
theorem sxZ {G G':Prop} (r:G') (h:bC G'→G:=by
 intro r
 repeat1' (first|(with_reducible first|(refine hK _ _ ?_;try clear hK K)|(refine hA ?_;try clear hA hB A B)|(refine hB ?_;try clear hA hB A B)|(refine hK _ ?_;try clear hK K))|(intro K hK;first|(with_reducible first|refine hK _ _ ?_|refine hK _ ?_)|refine dY ?_)|((first|((with_reducible refine gV ?_);(first|((with_reducible first|refine NV.quo ?s ?_|refine NV.rem ?s ?_|refine NV.i64 ?s ?_|refine NV.u32 ?s ?_|refine NV.u8 ?s ?_|refine NV.u64 ?s ?_);case s=>omega)|(with_reducible first|refine NV.divk ?_|refine NV.modk ?_|refine NV.keep ?_)))|((with_reducible refine gI ?_);(first|with_reducible refine NIf.not_ ?_|((with_reducible refine NIf.decY ?s ?_);case s=>first|with_reducible rfl|assumption|omega)|((with_reducible refine NIf.decN ?s ?_);case s=>first|with_reducible rfl|assumption|omega)|((with_reducible refine NIf.yes ?s ?_);case s=>first|rfl|assumption)|((with_reducible refine NIf.no ?s ?_);case s=>first|rfl|assumption)))|((with_reducible refine gN ?_);(with_reducible first|refine NN.lit ?_|refine NN.cast ?_|refine NN.a1 ?_|refine NN.a2 ?_|refine NN.a3 ?_|refine NN.a4 ?_|refine NN.a5 ?_|refine NN.a6 ?_|refine NN.keep ?_))|((with_reducible refine gH ?_);((with_reducible refine NH.mk ?s ?_);case s=>(and_intros<;>first|with_reducible rfl|((with_reducible refine fP ?_);rfl)|((with_reducible refine kM ?_);rfl)|omega|assumption|exact Nat.le_of_ble_eq_true rfl|(simp only [List.length_append,List.length_cons,List.length_nil];omega)|rfl)))|(with_reducible refine NS.keep ?_)|(with_reducible refine NLd.of (by with_reducible assumption) ?_))<;>(conv=>whnf))|((first|((with_reducible refine gO ?_);(with_reducible first|refine z25 ?_|refine z26 ?_))|((with_reducible refine gP ?_);(with_reducible first|refine z27 ?_|refine z28 ?_))|((with_reducible refine gR ?_);(first|refine z31 rfl ?_|refine z32 rfl ?_))|((with_reducible refine gF ?_);(refine z33 rfl ?_)));intro K hK;conv=>whnf)|((with_reducible refine gO ?_);(with_reducible first|refine z0 ?_))|((with_reducible refine gP ?_);(with_reducible first|refine z24 ?_))|((with_reducible refine gX ?_);(with_reducible first|refine z3 ?_|refine z4 ?_|refine z5 ?_|refine z6 ?_|refine z7 ?_|refine z8 ?_|refine z14 ?_|refine z15 ?_))|(with_reducible first|refine z1 ?_|refine z2 ?_|refine z9 ?_|refine z10 ?_|refine z11 ?_|refine z12 ?_|refine z13 ?_|refine z16 ?_|refine z17 ?_|refine z18 ?_|refine z19 ?_|refine z20 ?_|refine z21 ?_|refine z22 ?_|refine z23 ?_)|((with_reducible refine gB ?_);(refine z30 (by decide) ?_))|((with_reducible refine gX ?_);(refine z34 (by kernel_rfl) (by kernel_rfl) ?_))|((first|((with_reducible refine gX ?_);(with_reducible refine z29 ?_)));intro A B hA hB;conv=>whnf)|((refine bL.2 ⟨⟨?s1,?s2⟩,?_⟩;(case s1=>decide +kernel);(case s2=>decide +kernel))<;>(conv=>whnf)))
 (first|exact r.go|(revert K hK;exact r.go)|(revert A B hA hB;exact r.go))):G:=h ⟨r⟩
theorem sxO {G G':Prop} (r:G') (h:bC G'→G:=by
 intro r
 repeat1' (first|(with_reducible first|(refine hK _ _ ?_;try clear hK K)|(refine hA ?_;try clear hA hB A B)|(refine hB ?_;try clear hA hB A B)|(refine hK _ ?_;try clear hK K))|(intro K hK;first|(with_reducible first|refine hK _ _ ?_|refine hK _ ?_)|refine dY ?_)|((first|((with_reducible refine gV ?_);(first|((with_reducible first|refine NV.quo ?s ?_|refine NV.rem ?s ?_|refine NV.i64 ?s ?_|refine NV.u32 ?s ?_|refine NV.u8 ?s ?_|refine NV.u64 ?s ?_);case s=>omega)|(with_reducible first|refine NV.divk ?_|refine NV.modk ?_|refine NV.keep ?_)))|((with_reducible refine gI ?_);(first|with_reducible refine NIf.not_ ?_|((with_reducible refine NIf.decY ?s ?_);case s=>first|with_reducible rfl|assumption|omega)|((with_reducible refine NIf.decN ?s ?_);case s=>first|with_reducible rfl|assumption|omega)|((with_reducible refine NIf.yes ?s ?_);case s=>first|rfl|assumption)|((with_reducible refine NIf.no ?s ?_);case s=>first|rfl|assumption)))|((with_reducible refine gN ?_);(with_reducible first|refine NN.lit ?_|refine NN.cast ?_|refine NN.a1 ?_|refine NN.a2 ?_|refine NN.a3 ?_|refine NN.a4 ?_|refine NN.a5 ?_|refine NN.a6 ?_|refine NN.keep ?_))|((with_reducible refine gH ?_);((with_reducible refine NH.mk ?s ?_);case s=>(and_intros<;>first|with_reducible rfl|((with_reducible refine fP ?_);rfl)|((with_reducible refine kM ?_);rfl)|omega|assumption|exact Nat.le_of_ble_eq_true rfl|(simp only [List.length_append,List.length_cons,List.length_nil];omega)|rfl)))|(with_reducible refine NS.keep ?_)|(with_reducible refine NLd.of (by with_reducible assumption) ?_))<;>(conv=>whnf))|((first|((with_reducible refine gO ?_);(with_reducible first|refine z25 ?_|refine z26 ?_))|((with_reducible refine gP ?_);(with_reducible first|refine z27 ?_|refine z28 ?_))|((with_reducible refine gR ?_);(first|refine z31 rfl ?_|refine z32 rfl ?_))|((with_reducible refine gF ?_);(refine z33 rfl ?_)));intro K hK;conv=>whnf)|((with_reducible refine gO ?_);(with_reducible first|refine z0 ?_))|((with_reducible refine gP ?_);(with_reducible first|refine z24 ?_))|((with_reducible refine gX ?_);(with_reducible first|refine z3 ?_|refine z4 ?_|refine z5 ?_|refine z6 ?_|refine z7 ?_|refine z8 ?_|refine z14 ?_|refine z15 ?_))|(with_reducible first|refine z1 ?_|refine z2 ?_|refine z9 ?_|refine z10 ?_|refine z11 ?_|refine z12 ?_|refine z13 ?_|refine z16 ?_|refine z17 ?_|refine z18 ?_|refine z19 ?_|refine z20 ?_|refine z21 ?_|refine z22 ?_|refine z23 ?_)|((with_reducible refine gB ?_);(refine z30 (by decide) ?_))|((with_reducible refine gX ?_);(refine z35 (by kernel_rfl) _ rfl ?_))|((with_reducible refine gNO ?_);(first|(refine z36 rfl (by kernel_rfl) ?_;intro K hK;conv=>whnf)|(refine z37 rfl (by kernel_rfl) ?_;intro K hK;conv=>whnf)|(refine z38 rfl (by kernel_rfl) ?_)|(refine z39 rfl rfl (by kernel_rfl) (by intro h;cases h) ?_)))|((with_reducible refine gNE ?_);(first|(refine z40 ?_ z42;intro K hK;conv=>whnf)|(refine z41 ?_ z42;intro K hK;conv=>whnf)))|((first|((with_reducible refine gX ?_);(with_reducible refine z29 ?_)));intro A B hA hB;conv=>whnf)|((refine bL.2 ⟨⟨?s1,?s2⟩,?_⟩;(case s1=>decide +kernel);(case s2=>decide +kernel))<;>(conv=>whnf)))
 (first|exact r.go|(revert K hK;exact r.go)|(revert A B hA hB;exact r.go))):G:=h ⟨r⟩
theorem sxW {G A' B':Prop} (ra:A') (rb:B') (h:bC A'→bC B'→G:=by
 intro ra rb
 (first|intro A B hA hB|intro K hK|skip);(with_reducible first|refine NIf.dec ?x8 ?x9|refine NIf.both ?x8 ?x9);(case x8=>intro hc;(conv=>whnf);(try with_reducible first|refine hA ?_|refine hB ?_|refine hK _ _ ?_|refine hK _ ?_);first|(revert hc;exact ra.go)|(revert K hK;revert hc;exact ra.go)|(revert A B hA hB;revert hc;exact ra.go));(case x9=>intro hc;(conv=>whnf);(try with_reducible first|refine hA ?_|refine hB ?_|refine hK _ _ ?_|refine hK _ ?_);first|(revert hc;exact rb.go)|(revert K hK;revert hc;exact rb.go)|(revert A B hA hB;revert hc;exact rb.go))):G:=h ⟨ra⟩ ⟨rb⟩
theorem sxV {G A' B':Prop} (ra:A') (rb:B') (h:bC A'→bC B'→G:=by
 intro ra rb
 (with_reducible refine gNE ?_);(first|refine z40 ?_ ?_|refine z41 ?_ ?_);(intro K hK;(conv=>whnf);revert K hK;exact ra.go);exact rb.go):G:=h ⟨ra⟩ ⟨rb⟩
end Go.Sx
