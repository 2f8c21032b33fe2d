import Derived.Test.YtmehinfgdcmmjaaGreatDoorSxC
import Derived.Test.YtmehinfgdcmmjaaGreatDoorProg
namespace Go.Proofs.YtmehinfgdcmmjaaGreatDoor
open Go.Sx
set_option linter.unusedVariables false
namespace Mt
def top (f:Int):Int:=if f=2 then 15 else if f=0∨f=1∨f=3 then 255 else 0
def bit (n:Int) (i:Nat):Int:=n / 2 ^ i % 2
structure M where
 p:Int
 v0:Int
 v1:Int
 v2:Int
 v3:Int
 m0:Int
 m1:Int
 m2:Int
 m3:Int
def M.v (x:M) (f:Nat):Int:=match f with | 0=>x.v0 | 1=>x.v1 | 2=>x.v2 | _=>x.v3
def M.m (x:M) (f:Nat):Int:=match f with | 0=>x.m0 | 1=>x.m1 | 2=>x.m2 | _=>x.m3
def M.av (x:M):List AV:=[.int .i64 x.p,.int .i64 x.v0,.int .i64 x.v1,.int .i64 x.v2,.int .i64 x.v3,.int .i64 x.m0,.int .i64 x.m1,.int .i64 x.m2,.int .i64 x.m3]
def i64 (n:Int):Prop:=-9223372036854775808≤n∧n≤9223372036854775807
def M.in64 (x:M):Prop:=i64 x.p∧∀ f,f<4→i64 (x.v f)∧i64 (x.m f)
def FOk (t v m:Int):Prop:=0≤m∧m≤t∧0≤v∧v≤t∧∀ i,i<8→bit v i≤bit m i
instance (t v m:Int):Decidable (FOk t v m):=by unfold FOk;infer_instance
def M.ok (x:M):Prop:=(-1≤x.p∧x.p≤7)∧∀ f:Nat,f<4→FOk (top f) (x.v f) (x.m f)
instance (x:M):Decidable x.ok:=by unfold M.ok;infer_instance
theorem top_lt (f:Int):0≤top f∧top f≤255:=by
 unfold top
 split
 ·decide
 ·split<;>decide
theorem bit_nat (a i:Nat):bit (a:Int) i=if a.testBit i then 1 else 0:=by
 unfold bit
 rw [Nat.testBit_eq_decide_div_mod_eq]
 have h:((a:Int) / 2 ^ i % 2)=((a / 2 ^ i % 2:Nat):Int):=by simp
 rw [h]
 have h2:a / 2 ^ i % 2<2:=Nat.mod_lt _ (by decide)
 by_cases h1:a / 2 ^ i % 2=1
 ·simp [h1]
 ·have:a / 2 ^ i % 2=0:=by omega
  simp [this]
theorem bit_le (a b i:Nat):bit (a:Int) i≤bit (b:Int) i↔(a.testBit i=true→b.testBit i=true):=by
 rw [bit_nat,bit_nat]
 cases a.testBit i<;>cases b.testBit i<;>simp
theorem lt_of_bits {a n:Nat} (h:∀ i,n≤i→a.testBit i=false):a<2 ^ n:=Nat.lt_pow_two_of_testBit a fun i hi=>h i hi
theorem bit_hi {a n i:Nat} (h:a<2 ^ n) (hi:n≤i):a.testBit i=false:=Nat.testBit_lt_two_pow (Nat.lt_of_lt_of_le h (Nat.pow_le_pow_right (by decide) hi))
theorem sub_iff {a b:Nat} (hb:b<256):(a<256∧∀ i,i<8→(a.testBit i=true→b.testBit i=true))↔∀ i,a.testBit i=true→b.testBit i=true:=by
 constructor
 ·rintro ⟨h1,h2⟩ i hi
  rcases Nat.lt_or_ge i 8 with h | h
  ·exact h2 i h hi
  ·rw [bit_hi (n:=8) h1 h] at hi;cases hi
 ·intro h
  refine ⟨lt_of_bits (n:=8) fun i hi=>?_,fun i _=>h i⟩
  cases hx:a.testBit i with
  | false=>rfl
  | true =>
   have:=h i hx
   rw [bit_hi (n:=8) hb hi] at this
   cases this
theorem le_of_sub {a b:Nat} (h:∀ i,a.testBit i=true→b.testBit i=true):a≤b:=by
 have:a &&& b=a:=by
  refine Nat.eq_of_testBit_eq fun i=>?_
  rw [Nat.testBit_and]
  cases hx:a.testBit i with
  | false=>rfl
  | true=>rw [h i hx];rfl
 rw [← this]
 exact Nat.and_le_right
structure N where
 p:Int
 v0:Nat
 v1:Nat
 v2:Nat
 v3:Nat
 m0:Nat
 m1:Nat
 m2:Nat
 m3:Nat
def N.v (x:N) (f:Nat):Nat:=match f with | 0=>x.v0 | 1=>x.v1 | 2=>x.v2 | _=>x.v3
def N.m (x:N) (f:Nat):Nat:=match f with | 0=>x.m0 | 1=>x.m1 | 2=>x.m2 | _=>x.m3
def N.toM (x:N):M:=⟨x.p,x.v0,x.v1,x.v2,x.v3,x.m0,x.m1,x.m2,x.m3⟩
theorem N.toM_v (x:N) (f:Nat):x.toM.v f=(x.v f:Int):=by unfold M.v N.v N.toM;split<;>rfl
theorem N.toM_m (x:N) (f:Nat):x.toM.m f=(x.m f:Int):=by unfold M.m N.m N.toM;split<;>rfl
def Sub (a b:Nat):Prop:=∀ i,a.testBit i=true→b.testBit i=true
def N.ok (x:N):Prop:=(-1≤x.p∧x.p≤7)∧∀ f,f<4→(x.m f:Int)≤top f∧Sub (x.v f) (x.m f)
theorem N.ok_iff (x:N):x.toM.ok↔x.ok:=by
 unfold M.ok N.ok
 refine and_congr Iff.rfl (forall_congr' fun f=>forall_congr' fun hf=>?_)
 rw [N.toM_v,N.toM_m]
 have ht:=top_lt f
 constructor
 ·rintro ⟨h1,h2,h3,h4,h5⟩
  exact ⟨h2,(sub_iff (by omega)).1 ⟨by omega,fun i hi=>(bit_le _ _ i).1 (h5 i hi)⟩⟩
 ·rintro ⟨h1,h2⟩
  have:=le_of_sub h2
  exact ⟨by omega,h1,by omega,by omega,fun i _=>(bit_le _ _ i).2 (h2 i)⟩
def N.lt (x:N):Prop:=∀ f,f<4→x.v f<256∧x.m f<256
theorem N.ok.lt {x:N} (h:x.ok):x.lt:=fun f hf=>by
 obtain ⟨h1,h2⟩:=h.2 f hf
 have:=top_lt f
 have:=le_of_sub h2
 omega
def hit1 (p v m:Nat):Prop:=(p ^^^ v) &&& m=0
instance (p v m:Nat):Decidable (hit1 p v m):=by unfold hit1;infer_instance
def hits (x:N) (port:Int) (k:Nat→Nat):Prop:=(x.p = -1∨x.p=port)∧∀ f,f<4→hit1 (k f) (x.v f) (x.m f)
instance (x:N) (port:Int) (k:Nat→Nat):Decidable (hits x port k):=by unfold hits;infer_instance
end Mt
end Go.Proofs.YtmehinfgdcmmjaaGreatDoor
namespace Go.Proofs.YtmehinfgdcmmjaaGreatDoor
open Go.Sx
set_option maxRecDepth 20000
set_option linter.unusedSimpArgs false
set_option linter.unusedVariables false
theorem boolT {p:Prop} {_:Decidable p} (h:p):AV.bool true = .bool (decide p):=by rw [decide_eq_true h]
theorem boolF {p:Prop} {_:Decidable p} (h:¬ p):AV.bool false = .bool (decide p):=by rw [decide_eq_false h]
theorem bits_c (f:Int) (hf:0≤f∧f≤3):NCall Tryz.prog 109 [.int .i64 f] [] fun r _=>r = .int .i64 (if f=2 then 4 else 8):=by
 refine ncall_of Tryz.func109 rfl (by decide) ?_
 have:f=0∨f=1∨f=2∨f=3:=by omega
 rcases this with rfl | rfl | rfl | rfl
 all_goals (repeat' first|(refine sxZ ?_;try clear hK K)|refine sxW ?_ ?_<;>intro _|(intro K hK _;(conv=>whnf)))
 all_goals rfl
theorem top_c (f:Int) (hf:0≤f∧f≤3):NCall Tryz.prog 61 [.int .i64 f] [] fun r _=>r = .int .i64 (Mt.top f):=by
 refine ncall_of Tryz.func61 rfl (by decide) ?_
 have:f=0∨f=1∨f=2∨f=3:=by omega
 have e4:IntKind.i64.wrap (1*2 ^ min (Int.toNat 4) IntKind.i64.bits)=16:=by decide +kernel
 have e8:IntKind.i64.wrap (1*2 ^ min (Int.toNat 8) IntKind.i64.bits)=256:=by decide +kernel
 rcases this with rfl | rfl | rfl | rfl
 ·(repeat' (first|(with_reducible first|(refine hK _ _ ?_;clear hK K)|(refine hA ?_;clear hA hB A B)|(refine hB ?_;clear hA hB A B)|(refine hK _ ?_;clear hK K))|((first|((with_reducible refine gC ?_);refine NCall.pureE (bits_c 0 (by decide)) ?_)|(with_reducible refine NV.eq (e8) ?_))<;>(conv=>whnf))|refine sxEA ?_|refine sxSA ?_|((with_reducible refine gX ?_);refine z34 (by kernel_rfl) (by kernel_rfl) ?_)|(refine sxIA ?_;intro K hK;(conv=>whnf))|(refine sxCA ?_;intro A B hA hB;(conv=>whnf))|((with_reducible first|refine NIf.dec (fun _=>?_) (fun _=>?_)|refine NIf.both (fun _=>?_) (fun _=>?_))<;>(conv=>whnf))|((intro _;skip)<;>(conv=>whnf))))
  rfl
 ·(repeat' (first|(with_reducible first|(refine hK _ _ ?_;clear hK K)|(refine hA ?_;clear hA hB A B)|(refine hB ?_;clear hA hB A B)|(refine hK _ ?_;clear hK K))|((first|((with_reducible refine gC ?_);refine NCall.pureE (bits_c 1 (by decide)) ?_)|(with_reducible refine NV.eq (e8) ?_))<;>(conv=>whnf))|refine sxEA ?_|refine sxSA ?_|((with_reducible refine gX ?_);refine z34 (by kernel_rfl) (by kernel_rfl) ?_)|(refine sxIA ?_;intro K hK;(conv=>whnf))|(refine sxCA ?_;intro A B hA hB;(conv=>whnf))|((with_reducible first|refine NIf.dec (fun _=>?_) (fun _=>?_)|refine NIf.both (fun _=>?_) (fun _=>?_))<;>(conv=>whnf))|((intro _;skip)<;>(conv=>whnf))))
  rfl
 ·(repeat' (first|(with_reducible first|(refine hK _ _ ?_;clear hK K)|(refine hA ?_;clear hA hB A B)|(refine hB ?_;clear hA hB A B)|(refine hK _ ?_;clear hK K))|((first|((with_reducible refine gC ?_);refine NCall.pureE (bits_c 2 (by decide)) ?_)|(with_reducible refine NV.eq (e4) ?_))<;>(conv=>whnf))|refine sxEA ?_|refine sxSA ?_|((with_reducible refine gX ?_);refine z34 (by kernel_rfl) (by kernel_rfl) ?_)|(refine sxIA ?_;intro K hK;(conv=>whnf))|(refine sxCA ?_;intro A B hA hB;(conv=>whnf))|((with_reducible first|refine NIf.dec (fun _=>?_) (fun _=>?_)|refine NIf.both (fun _=>?_) (fun _=>?_))<;>(conv=>whnf))|((intro _;skip)<;>(conv=>whnf))))
  rfl
 ·(repeat' (first|(with_reducible first|(refine hK _ _ ?_;clear hK K)|(refine hA ?_;clear hA hB A B)|(refine hB ?_;clear hA hB A B)|(refine hK _ ?_;clear hK K))|((first|((with_reducible refine gC ?_);refine NCall.pureE (bits_c 3 (by decide)) ?_)|(with_reducible refine NV.eq (e8) ?_))<;>(conv=>whnf))|refine sxEA ?_|refine sxSA ?_|((with_reducible refine gX ?_);refine z34 (by kernel_rfl) (by kernel_rfl) ?_)|(refine sxIA ?_;intro K hK;(conv=>whnf))|(refine sxCA ?_;intro A B hA hB;(conv=>whnf))|((with_reducible first|refine NIf.dec (fun _=>?_) (fun _=>?_)|refine NIf.both (fun _=>?_) (fun _=>?_))<;>(conv=>whnf))|((intro _;skip)<;>(conv=>whnf))))
  rfl
end Go.Proofs.YtmehinfgdcmmjaaGreatDoor
namespace Go.Proofs.YtmehinfgdcmmjaaGreatDoor
open Go.Sx
set_option maxRecDepth 20000
set_option linter.unusedSimpArgs false
set_option linter.unusedVariables false
set_option linter.unusedVariables false
theorem xor_lt {a b:Nat} (ha:a<256) (hb:b<256):a ^^^ b<256:=Nat.xor_lt_two_pow (n:=8) ha hb
theorem b_xor {a b:Nat} (ha:a<256) (hb:b<256):bitv .xor .i64 a b=((a ^^^ b:Nat):Int):=bitv_xor (n:=8) (by decide) ha hb
theorem b_and {a b:Nat} (ha:a<256) (hb:b<256):bitv .and .i64 a b=((a &&& b:Nat):Int):=bitv_and (n:=8) (by decide) ha hb
theorem all4 {p:Nat→Prop}:(∀ f,f<4→p f)↔p 0∧p 1∧p 2∧p 3:=by
 constructor
 ·exact fun h=>⟨h 0 (by decide),h 1 (by decide),h 2 (by decide),h 3 (by decide)⟩
 ·rintro ⟨h0,h1,h2,h3⟩ f hf
  match f with
  | 0=>exact h0
  | 1=>exact h1
  | 2=>exact h2
  | 3=>exact h3
  | (k+4)=>exact absurd hf (by omega)
def pkAv (k:Nat→Nat):AV:=.agg [.int .i64 (k 0),.int .i64 (k 1),.int .i64 (k 2),.int .i64 (k 3)]
set_option maxHeartbeats 2000000 in
theorem hits_c (x:Mt.N) (hx:x.lt) (port:Int) (k:Nat→Nat) (hk:∀ f,f<4→k f<256):NCall Tryz.prog 64 [.agg x.toM.av,.int .i64 port,pkAv k] [] fun r _=>r = .bool (decide (Mt.hits x port k)):=by
 obtain ⟨p,v0,v1,v2,v3,m0,m1,m2,m3⟩:=x
 obtain ⟨⟨hv0,hm0⟩,⟨hv1,hm1⟩,⟨hv2,hm2⟩,hv3,hm3⟩:=all4.1 hx
 obtain ⟨hk0,hk1,hk2,hk3⟩:=all4.1 hk
 simp only [Mt.N.v,Mt.N.m] at *
 have q:Mt.hits ⟨p,v0,v1,v2,v3,m0,m1,m2,m3⟩ port k↔(p = -1∨p=port)∧(k 0 ^^^ v0) &&& m0=0∧(k 1 ^^^ v1) &&& m1=0∧(k 2 ^^^ v2) &&& m2=0∧(k 3 ^^^ v3) &&& m3=0:=and_congr Iff.rfl all4
 unfold pkAv
 generalize k 0=k0 at *
 generalize k 1=k1 at *
 generalize k 2=k2 at *
 generalize k 3=k3 at *
 have e0:=b_and (xor_lt hk0 hv0) hm0
 have e1:=b_and (xor_lt hk1 hv1) hm1
 have e2:=b_and (xor_lt hk2 hv2) hm2
 have e3:=b_and (xor_lt hk3 hv3) hm3
 simp only [Mt.N.toM,Mt.M.av]
 refine ncall_of Tryz.func64 rfl (by decide) ?_
 generalize (k0 ^^^ v0) &&& m0=r0 at *
 generalize (k1 ^^^ v1) &&& m1=r1 at *
 generalize (k2 ^^^ v2) &&& m2=r2 at *
 generalize (k3 ^^^ v3) &&& m3=r3 at *
 (repeat' (first|(with_reducible first|(refine hK _ _ ?_;clear hK K)|(refine hA ?_;clear hA hB A B)|(refine hB ?_;clear hA hB A B)|(refine hK _ ?_;clear hK K))|((with_reducible first|refine NV.eq (b_xor hk0 hv0) ?_|refine NV.eq (b_xor hk1 hv1) ?_|refine NV.eq (b_xor hk2 hv2) ?_|refine NV.eq (b_xor hk3 hv3) ?_|refine NV.eq (e0) ?_|refine NV.eq (e1) ?_|refine NV.eq (e2) ?_|refine NV.eq (e3) ?_)<;>(conv=>whnf))|refine sxEA ?_|(with_reducible refine st_rounds 5 ?_)|refine sxSA ?_|((with_reducible refine gX ?_);refine z34 (by kernel_rfl) (by kernel_rfl) ?_)|(refine sxIA ?_;intro K hK;(conv=>whnf))|(refine sxCA ?_;intro A B hA hB;(conv=>whnf))|((with_reducible first|refine NIf.dec (fun _=>?_) (fun _=>?_)|refine NIf.both (fun _=>?_) (fun _=>?_))<;>(conv=>whnf))|((intro _;skip)<;>(conv=>whnf))))
 all_goals first
  | exact boolF (fun h=>by have:=q.1 h;omega)
  | exact boolT (q.2 (by omega))
end Go.Proofs.YtmehinfgdcmmjaaGreatDoor
namespace Go.Proofs.YtmehinfgdcmmjaaGreatDoor
open Go.Sx
set_option maxRecDepth 20000
set_option linter.unusedSimpArgs false
set_option linter.unusedVariables false
deriving instance DecidableEq for Mt.N
theorem boolIff {x:Bool} {p:Prop} {_:Decidable p} (h:x=true↔p):AV.bool x = .bool (decide p):=by
 cases x with
 | true=>exact boolT (h.1 rfl)
 | false=>exact boolF fun hp=>by cases h.2 hp
theorem any_c:NCall Tryz.prog 60 [] [] fun r _=>r = .agg [.int .i64 (-1),.int .i64 0,.int .i64 0,.int .i64 0,.int .i64 0,.int .i64 0,.int .i64 0,.int .i64 0,.int .i64 0]:=by
 refine ncall_of Tryz.func60 rfl (by decide) ?_
 repeat' first|(refine sxZ ?_;try clear hK K)|refine sxW ?_ ?_<;>intro _|(intro K hK _;(conv=>whnf))
 rfl
end Go.Proofs.YtmehinfgdcmmjaaGreatDoor
