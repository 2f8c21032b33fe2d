import Derived.Test.YtmehinfgdcmmjaaGreatSxC
import Derived.Test.YtmehinfgdcmmjaaGreatProg
namespace Go.Proofs.YtmehinfgdcmmjaaGreat
open Go.Sx
set_option linter.unusedVariables false
namespace Mt
def top (f:Int):Int:=if f=2 then 15 else if f=0∨f=1∨f=3 then 255 else 0
def bit (n:Int) (i:Nat):Int:=n / 2 ^ i % 2
structure M where
  p:Int
  v0:Int
  v1:Int
  v2:Int
  v3:Int
  m0:Int
  m1:Int
  m2:Int
  m3:Int
def M.v (x:M) (f:Nat):Int:=match f with | 0=>x.v0 | 1=>x.v1 | 2=>x.v2 | _=>x.v3
def M.m (x:M) (f:Nat):Int:=match f with | 0=>x.m0 | 1=>x.m1 | 2=>x.m2 | _=>x.m3
def M.av (x:M):List AV:=[.int .i64 x.p,.int .i64 x.v0,.int .i64 x.v1,.int .i64 x.v2,.int .i64 x.v3,.int .i64 x.m0,.int .i64 x.m1,.int .i64 x.m2,.int .i64 x.m3]
def i64 (n:Int):Prop:=-9223372036854775808≤n∧n≤9223372036854775807
def M.in64 (x:M):Prop:=i64 x.p∧∀ f,f<4→i64 (x.v f)∧i64 (x.m f)
def FOk (t v m:Int):Prop:=0≤m∧m≤t∧0≤v∧v≤t∧∀ i,i<8→bit v i≤bit m i
instance (t v m:Int):Decidable (FOk t v m):=by unfold FOk;infer_instance
def M.ok (x:M):Prop:=(-1≤x.p∧x.p≤7)∧∀ f:Nat,f<4→FOk (top f) (x.v f) (x.m f)
instance (x:M):Decidable x.ok:=by unfold M.ok;infer_instance
theorem top_lt (f:Int):0≤top f∧top f≤255:=by
  unfold top
  split
  · decide
  · split<;>decide
theorem zero_iff (x:Nat):x=0↔∀ i,x.testBit i=false:=by
  constructor
  · rintro rfl i;simp
  · intro h
    refine Nat.eq_of_testBit_eq fun i=>?_
    rw [h i];simp
theorem bit_nat (a i:Nat):bit (a:Int) i=if a.testBit i then 1 else 0:=by
  unfold bit
  rw [Nat.testBit_eq_decide_div_mod_eq]
  have h:((a:Int) / 2 ^ i % 2)=((a / 2 ^ i % 2:Nat):Int):=by simp
  rw [h]
  have h2:a / 2 ^ i % 2<2:=Nat.mod_lt _ (by decide)
  by_cases h1:a / 2 ^ i % 2=1
  · simp [h1]
  · have:a / 2 ^ i % 2=0:=by omega
    simp [this]
theorem bit_le (a b i:Nat):bit (a:Int) i≤bit (b:Int) i↔(a.testBit i=true→b.testBit i=true):=by
  rw [bit_nat,bit_nat]
  cases a.testBit i<;>cases b.testBit i<;>simp
theorem lt_of_bits {a n:Nat} (h:∀ i,n≤i→a.testBit i=false):a<2 ^ n:=Nat.lt_pow_two_of_testBit a fun i hi=>h i hi
theorem bit_hi {a n i:Nat} (h:a<2 ^ n) (hi:n≤i):a.testBit i=false:=Nat.testBit_lt_two_pow (Nat.lt_of_lt_of_le h (Nat.pow_le_pow_right (by decide) hi))
theorem sub_iff {a b:Nat} (hb:b<256):(a<256∧∀ i,i<8→(a.testBit i=true→b.testBit i=true))↔∀ i,a.testBit i=true→b.testBit i=true:=by
  constructor
  · rintro ⟨h1,h2⟩ i hi
    rcases Nat.lt_or_ge i 8 with h | h
    · exact h2 i h hi
    · rw [bit_hi (n:=8) h1 h] at hi;cases hi
  · intro h
    refine ⟨lt_of_bits (n:=8) fun i hi=>?_,fun i _=>h i⟩
    cases hx:a.testBit i with
    | false=>rfl
    | true =>
      have:=h i hx
      rw [bit_hi (n:=8) hb hi] at this
      cases this
theorem le_of_sub {a b:Nat} (h:∀ i,a.testBit i=true→b.testBit i=true):a≤b:=by
  have:a &&& b=a:=by
    refine Nat.eq_of_testBit_eq fun i=>?_
    rw [Nat.testBit_and]
    cases hx:a.testBit i with
    | false=>rfl
    | true=>rw [h i hx];rfl
  rw [← this]
  exact Nat.and_le_right
theorem wrap_zero (n:Nat) (h:n<18446744073709551616):IntKind.i64.wrap (n:Int)=0↔n=0:=by
  rw [IntKind.wrap_i64];omega
theorem andNot_zero (a b:Nat) (ha:a<9223372036854775808):bitv .andNot .i64 (a:Int) (b:Int)=0↔∀ i,a.testBit i=true→i<64→(BitVec.ofNat 64 b).getLsbD i=true:=by
  have e1:BitVec.ofInt IntKind.i64.bits (a:Int)=BitVec.ofNat 64 a:=BitVec.ofInt_natCast ..
  have e2:BitVec.ofInt IntKind.i64.bits (b:Int)=BitVec.ofNat 64 b:=BitVec.ofInt_natCast ..
  have e:bitv .andNot .i64 (a:Int) (b:Int)=IntKind.i64.wrap (((BitVec.ofNat 64 a &&& ~~~BitVec.ofNat 64 b:BitVec 64).toNat:Nat):Int):=by
    unfold bitv
    rw [e1,e2]
    rfl
  rw [e,wrap_zero _ (BitVec.isLt _),zero_iff]
  constructor
  · intro h i hi h64
    have:=h i
    rw [BitVec.testBit_toNat] at this
    have ha':(BitVec.ofNat 64 a).getLsbD i=true:=by rw [BitVec.getLsbD_ofNat];simp [h64,hi]
    rw [BitVec.getLsbD_and,BitVec.getLsbD_not,ha'] at this
    simpa [h64] using this
  · intro h i
    rw [BitVec.testBit_toNat]
    rcases Nat.lt_or_ge i 64 with h64 | h64
    · rw [BitVec.getLsbD_and,BitVec.getLsbD_not,BitVec.getLsbD_ofNat]
      cases hx:a.testBit i with
      | false=>simp
      | true=>simp [h i hx h64,h64]
    · exact BitVec.getLsbD_of_ge _ _ h64
theorem andNot_iff (a b:Nat) (ha:a<9223372036854775808) (hb:b<256):bitv .andNot .i64 (a:Int) (b:Int)=0↔∀ i,a.testBit i=true→b.testBit i=true:=by
  rw [andNot_zero a b ha]
  constructor
  · intro h i hi
    rcases Nat.lt_or_ge i 64 with h64 | h64
    · have:=h i hi h64
      rw [BitVec.getLsbD_ofNat] at this
      simpa [h64] using this
    · rw [bit_hi (n:=63) ha (by omega)] at hi;cases hi
  · intro h i hi h64
    rw [BitVec.getLsbD_ofNat]
    simp [h64,h i hi]
theorem fok_iff (t v m:Int) (ht:0≤t∧t≤255) (hv:v≤9223372036854775807):FOk t v m↔0≤m∧m≤t∧0≤v∧bitv .andNot .i64 v m=0:=by
  constructor
  · rintro ⟨h1,h2,h3,h4,h5⟩
    obtain ⟨a,rfl⟩:=Int.eq_ofNat_of_zero_le h3
    obtain ⟨b,rfl⟩:=Int.eq_ofNat_of_zero_le h1
    refine ⟨h1,h2,h3,(andNot_iff a b (by omega) (by omega)).2 ((sub_iff (by omega)).1 ⟨by omega,fun i hi=>(bit_le a b i).1 (h5 i hi)⟩)⟩
  · rintro ⟨h1,h2,h3,h4⟩
    obtain ⟨a,rfl⟩:=Int.eq_ofNat_of_zero_le h3
    obtain ⟨b,rfl⟩:=Int.eq_ofNat_of_zero_le h1
    have h5:=(andNot_iff a b (by omega) (by omega)).1 h4
    have h6:=le_of_sub h5
    exact ⟨h1,h2,h3,by omega,fun i _=>(bit_le a b i).2 (h5 i)⟩
structure N where
  p:Int
  v0:Nat
  v1:Nat
  v2:Nat
  v3:Nat
  m0:Nat
  m1:Nat
  m2:Nat
  m3:Nat
def N.v (x:N) (f:Nat):Nat:=match f with | 0=>x.v0 | 1=>x.v1 | 2=>x.v2 | _=>x.v3
def N.m (x:N) (f:Nat):Nat:=match f with | 0=>x.m0 | 1=>x.m1 | 2=>x.m2 | _=>x.m3
def N.toM (x:N):M:=⟨x.p,x.v0,x.v1,x.v2,x.v3,x.m0,x.m1,x.m2,x.m3⟩
theorem N.toM_v (x:N) (f:Nat):x.toM.v f=(x.v f:Int):=by unfold M.v N.v N.toM;split<;>rfl
theorem N.toM_m (x:N) (f:Nat):x.toM.m f=(x.m f:Int):=by unfold M.m N.m N.toM;split<;>rfl
def Sub (a b:Nat):Prop:=∀ i,a.testBit i=true→b.testBit i=true
def N.ok (x:N):Prop:=(-1≤x.p∧x.p≤7)∧∀ f,f<4→(x.m f:Int)≤top f∧Sub (x.v f) (x.m f)
theorem N.ok_iff (x:N):x.toM.ok↔x.ok:=by
  unfold M.ok N.ok
  refine and_congr Iff.rfl (forall_congr' fun f=>forall_congr' fun hf=>?_)
  rw [N.toM_v,N.toM_m]
  have ht:=top_lt f
  constructor
  · rintro ⟨h1,h2,h3,h4,h5⟩
    exact ⟨h2,(sub_iff (by omega)).1 ⟨by omega,fun i hi=>(bit_le _ _ i).1 (h5 i hi)⟩⟩
  · rintro ⟨h1,h2⟩
    have:=le_of_sub h2
    exact ⟨by omega,h1,by omega,by omega,fun i _=>(bit_le _ _ i).2 (h2 i)⟩
def N.lt (x:N):Prop:=∀ f,f<4→x.v f<256∧x.m f<256
theorem N.ok.lt {x:N} (h:x.ok):x.lt:=fun f hf=>by
  obtain ⟨h1,h2⟩:=h.2 f hf
  have:=top_lt f
  have:=le_of_sub h2
  omega
def hit1 (p v m:Nat):Prop:=(p ^^^ v) &&& m=0
instance (p v m:Nat):Decidable (hit1 p v m):=by unfold hit1;infer_instance
def hits (x:N) (port:Int) (k:Nat→Nat):Prop:=(x.p = -1∨x.p=port)∧∀ f,f<4→hit1 (k f) (x.v f) (x.m f)
instance (x:N) (port:Int) (k:Nat→Nat):Decidable (hits x port k):=by unfold hits;infer_instance
end Mt
set_option maxRecDepth 20000
set_option linter.unusedSimpArgs false
theorem boolT {p:Prop} {_:Decidable p} (h:p):AV.bool true = .bool (decide p):=by rw [decide_eq_true h]
theorem cZ {p:Prop} {_:Decidable p} (h:¬ p):AV.bool false = .bool (decide p):=by rw [decide_eq_false h]
theorem jg (f:Int) (hf:0≤f∧f≤3):NCall Tryz.prog 115 [.int .i64 f] [] fun r _=>r = .int .i64 (if f=2 then 4 else 8):=by
  refine aA Tryz.func115 rfl (by decide) ?_
  have:f=0∨f=1∨f=2∨f=3:=by omega
  rcases this with rfl | rfl | rfl | rfl
  all_goals (repeat' first|(refine sxZ ?_;try clear hK K)|refine sxW ?_ ?_<;>intro _|(intro K hK _;conv=>whnf))
  all_goals rfl
theorem eh (f:Int) (hf:0≤f∧f≤3):NCall Tryz.prog 89 [.int .i64 f] [] fun r _=>r = .int .i64 (Mt.top f):=by
  refine aA Tryz.func89 rfl (by decide) ?_
  have:f=0∨f=1∨f=2∨f=3:=by omega
  have e4:IntKind.i64.wrap (1*2 ^ min (Int.toNat 4) IntKind.i64.bits)=16:=by decide +kernel
  have e8:IntKind.i64.wrap (1*2 ^ min (Int.toNat 8) IntKind.i64.bits)=256:=by decide +kernel
  rcases this with rfl | rfl | rfl | rfl
  · (repeat' (first|(with_reducible first|(refine hK _ _ ?_;clear hK K)|(refine hA ?_;clear hA hB A B)|(refine hB ?_;clear hA hB A B)|(refine hK _ ?_;clear hK K))|((first|((with_reducible refine gC ?_);refine NCall.pureE (jg 0 (by decide)) ?_)|(with_reducible refine NV.eq (e8) ?_))<;>(conv=>whnf))|refine dB ?_|refine dQ ?_|((with_reducible refine gX ?_);refine z34 (by kernel_rfl) (by kernel_rfl) ?_)|(refine bQ ?_;intro K hK;conv=>whnf)|(refine bF ?_;intro A B hA hB;conv=>whnf)|((with_reducible first|refine NIf.dec (fun _=>?_) (fun _=>?_)|refine NIf.both (fun _=>?_) (fun _=>?_))<;>(conv=>whnf))|((intro _;skip)<;>(conv=>whnf))))
    rfl
  · (repeat' (first|(with_reducible first|(refine hK _ _ ?_;clear hK K)|(refine hA ?_;clear hA hB A B)|(refine hB ?_;clear hA hB A B)|(refine hK _ ?_;clear hK K))|((first|((with_reducible refine gC ?_);refine NCall.pureE (jg 1 (by decide)) ?_)|(with_reducible refine NV.eq (e8) ?_))<;>(conv=>whnf))|refine dB ?_|refine dQ ?_|((with_reducible refine gX ?_);refine z34 (by kernel_rfl) (by kernel_rfl) ?_)|(refine bQ ?_;intro K hK;conv=>whnf)|(refine bF ?_;intro A B hA hB;conv=>whnf)|((with_reducible first|refine NIf.dec (fun _=>?_) (fun _=>?_)|refine NIf.both (fun _=>?_) (fun _=>?_))<;>(conv=>whnf))|((intro _;skip)<;>(conv=>whnf))))
    rfl
  · (repeat' (first|(with_reducible first|(refine hK _ _ ?_;clear hK K)|(refine hA ?_;clear hA hB A B)|(refine hB ?_;clear hA hB A B)|(refine hK _ ?_;clear hK K))|((first|((with_reducible refine gC ?_);refine NCall.pureE (jg 2 (by decide)) ?_)|(with_reducible refine NV.eq (e4) ?_))<;>(conv=>whnf))|refine dB ?_|refine dQ ?_|((with_reducible refine gX ?_);refine z34 (by kernel_rfl) (by kernel_rfl) ?_)|(refine bQ ?_;intro K hK;conv=>whnf)|(refine bF ?_;intro A B hA hB;conv=>whnf)|((with_reducible first|refine NIf.dec (fun _=>?_) (fun _=>?_)|refine NIf.both (fun _=>?_) (fun _=>?_))<;>(conv=>whnf))|((intro _;skip)<;>(conv=>whnf))))
    rfl
  · (repeat' (first|(with_reducible first|(refine hK _ _ ?_;clear hK K)|(refine hA ?_;clear hA hB A B)|(refine hB ?_;clear hA hB A B)|(refine hK _ ?_;clear hK K))|((first|((with_reducible refine gC ?_);refine NCall.pureE (jg 3 (by decide)) ?_)|(with_reducible refine NV.eq (e8) ?_))<;>(conv=>whnf))|refine dB ?_|refine dQ ?_|((with_reducible refine gX ?_);refine z34 (by kernel_rfl) (by kernel_rfl) ?_)|(refine bQ ?_;intro K hK;conv=>whnf)|(refine bF ?_;intro A B hA hB;conv=>whnf)|((with_reducible first|refine NIf.dec (fun _=>?_) (fun _=>?_)|refine NIf.both (fun _=>?_) (fun _=>?_))<;>(conv=>whnf))|((intro _;skip)<;>(conv=>whnf))))
    rfl
theorem rc:NCall Tryz.prog 89 [.int .i64 0] [] fun r _=>r = .int .i64 255:=eh 0 (by decide)
theorem rZ:NCall Tryz.prog 89 [.int .i64 1] [] fun r _=>r = .int .i64 255:=eh 1 (by decide)
theorem rY:NCall Tryz.prog 89 [.int .i64 2] [] fun r _=>r = .int .i64 15:=eh 2 (by decide)
theorem rX:NCall Tryz.prog 89 [.int .i64 3] [] fun r _=>r = .int .i64 255:=eh 3 (by decide)
set_option maxHeartbeats 4000000 in
theorem og (x:Mt.M) (hx:x.in64):NCall Tryz.prog 58 [.agg x.av] [] fun r _=>r = .bool (decide x.ok):=by
  have k0:Mt.FOk (Mt.top ((0:Nat):Int)) (x.v 0) (x.m 0)↔_:=Mt.fok_iff 255 x.v0 x.m0 (by decide) (hx.2 0 (by decide)).1.2
  have k1:Mt.FOk (Mt.top ((1:Nat):Int)) (x.v 1) (x.m 1)↔_:=Mt.fok_iff 255 x.v1 x.m1 (by decide) (hx.2 1 (by decide)).1.2
  have k2:Mt.FOk (Mt.top ((2:Nat):Int)) (x.v 2) (x.m 2)↔_:=Mt.fok_iff 15 x.v2 x.m2 (by decide) (hx.2 2 (by decide)).1.2
  have k3:Mt.FOk (Mt.top ((3:Nat):Int)) (x.v 3) (x.m 3)↔_:=Mt.fok_iff 255 x.v3 x.m3 (by decide) (hx.2 3 (by decide)).1.2
  refine aA Tryz.func58 rfl (by decide) ?_
  repeat' first|((try intro K hK);(with_reducible refine gC ?_);first|refine cP rc ?_|refine cP rZ ?_|refine cP rY ?_|refine cP rX ?_)|((with_reducible refine gX ?_);with_reducible refine bI 5 ?_)|(refine sxZ ?_;try clear hK K)|refine sxW ?_ ?_<;>intro _|(intro K hK _;conv=>whnf)
  all_goals first
    | (refine boolT ?_
       exact ⟨⟨by omega,by omega⟩,fun f hf=>by
        match f with
        | 0=>exact k0.2 ⟨by omega,by omega,by omega,by assumption⟩
        | 1=>exact k1.2 ⟨by omega,by omega,by omega,by assumption⟩
        | 2=>exact k2.2 ⟨by omega,by omega,by omega,by assumption⟩
        | 3=>exact k3.2 ⟨by omega,by omega,by omega,by assumption⟩
        | (k+4)=>exact absurd hf (by omega)⟩)
    | (refine cZ fun h=>?_
       have e4:=h.1
       obtain ⟨e01,e02,e03,e0⟩:=k0.1 (h.2 0 (by decide))
       obtain ⟨e11,e12,e13,e1⟩:=k1.1 (h.2 1 (by decide))
       obtain ⟨e21,e22,e23,e2⟩:=k2.1 (h.2 2 (by decide))
       obtain ⟨e31,e32,e33,e3⟩:=k3.1 (h.2 3 (by decide))
       clear k0 k1 k2 k3 hx h
       first | contradiction | omega)
theorem jD {a b:Nat} (ha:a<256) (hb:b<256):a ^^^ b<256:=Nat.xor_lt_two_pow (n:=8) ha hb
theorem mh {a b:Nat} (ha:a<256) (hb:b<256):bitv .xor .i64 a b=((a ^^^ b:Nat):Int):=ph (n:=8) (by decide) ha hb
theorem mi {a b:Nat} (ha:a<256) (hb:b<256):bitv .and .i64 a b=((a &&& b:Nat):Int):=pi (n:=8) (by decide) ha hb
theorem rU {p:Nat→Prop}:(∀ f,f<4→p f)↔p 0∧p 1∧p 2∧p 3:=by
  constructor
  · exact fun h=>⟨h 0 (by decide),h 1 (by decide),h 2 (by decide),h 3 (by decide)⟩
  · rintro ⟨h0,h1,h2,h3⟩ f hf
    match f with
    | 0=>exact h0
    | 1=>exact h1
    | 2=>exact h2
    | 3=>exact h3
    | (k+4)=>exact absurd hf (by omega)
def rJ (k:Nat→Nat):AV:=.agg [.int .i64 (k 0),.int .i64 (k 1),.int .i64 (k 2),.int .i64 (k 3)]
set_option maxHeartbeats 2000000 in
theorem rP (x:Mt.N) (hx:x.lt) (port:Int) (k:Nat→Nat) (hk:∀ f,f<4→k f<256):NCall Tryz.prog 56 [.agg x.toM.av,.int .i64 port,rJ k] [] fun r _=>r = .bool (decide (Mt.hits x port k)):=by
  obtain ⟨p,v0,v1,v2,v3,m0,m1,m2,m3⟩:=x
  obtain ⟨⟨hv0,hm0⟩,⟨hv1,hm1⟩,⟨hv2,hm2⟩,hv3,hm3⟩:=rU.1 hx
  obtain ⟨hk0,hk1,hk2,hk3⟩:=rU.1 hk
  simp only [Mt.N.v,Mt.N.m] at *
  have q:Mt.hits ⟨p,v0,v1,v2,v3,m0,m1,m2,m3⟩ port k↔(p = -1∨p=port)∧(k 0 ^^^ v0) &&& m0=0∧(k 1 ^^^ v1) &&& m1=0∧(k 2 ^^^ v2) &&& m2=0∧(k 3 ^^^ v3) &&& m3=0:=and_congr Iff.rfl rU
  unfold rJ
  generalize k 0=k0 at *
  generalize k 1=k1 at *
  generalize k 2=k2 at *
  generalize k 3=k3 at *
  have e0:=mi (jD hk0 hv0) hm0
  have e1:=mi (jD hk1 hv1) hm1
  have e2:=mi (jD hk2 hv2) hm2
  have e3:=mi (jD hk3 hv3) hm3
  simp only [Mt.N.toM,Mt.M.av]
  refine aA Tryz.func56 rfl (by decide) ?_
  generalize (k0 ^^^ v0) &&& m0=r0 at *
  generalize (k1 ^^^ v1) &&& m1=r1 at *
  generalize (k2 ^^^ v2) &&& m2=r2 at *
  generalize (k3 ^^^ v3) &&& m3=r3 at *
  (repeat' (first|(with_reducible first|(refine hK _ _ ?_;clear hK K)|(refine hA ?_;clear hA hB A B)|(refine hB ?_;clear hA hB A B)|(refine hK _ ?_;clear hK K))|((with_reducible first|refine NV.eq (mh hk0 hv0) ?_|refine NV.eq (mh hk1 hv1) ?_|refine NV.eq (mh hk2 hv2) ?_|refine NV.eq (mh hk3 hv3) ?_|refine NV.eq (e0) ?_|refine NV.eq (e1) ?_|refine NV.eq (e2) ?_|refine NV.eq (e3) ?_)<;>(conv=>whnf))|refine dB ?_|(with_reducible refine bI 5 ?_)|refine dQ ?_|((with_reducible refine gX ?_);refine z34 (by kernel_rfl) (by kernel_rfl) ?_)|(refine bQ ?_;intro K hK;conv=>whnf)|(refine bF ?_;intro A B hA hB;conv=>whnf)|((with_reducible first|refine NIf.dec (fun _=>?_) (fun _=>?_)|refine NIf.both (fun _=>?_) (fun _=>?_))<;>(conv=>whnf))|((intro _;skip)<;>(conv=>whnf))))
  all_goals first
    | exact cZ (fun h=>by have:=q.1 h;omega)
    | exact boolT (q.2 (by omega))
deriving instance DecidableEq for Mt.N
theorem dl {x:Bool} {p:Prop} {_:Decidable p} (h:x=true↔p):AV.bool x = .bool (decide p):=by
  cases x with
  | true=>exact boolT (h.1 rfl)
  | false=>exact cZ fun hp=>by cases h.2 hp
theorem rp:NCall Tryz.prog 88 [] [] fun r _=>r = .agg [.int .i64 (-1),.int .i64 0,.int .i64 0,.int .i64 0,.int .i64 0,.int .i64 0,.int .i64 0,.int .i64 0,.int .i64 0]:=by
  refine aA Tryz.func88 rfl (by decide) ?_
  repeat' first|(refine sxZ ?_;try clear hK K)|refine sxW ?_ ?_<;>intro _|(intro K hK _;conv=>whnf)
  rfl
end Go.Proofs.YtmehinfgdcmmjaaGreat
