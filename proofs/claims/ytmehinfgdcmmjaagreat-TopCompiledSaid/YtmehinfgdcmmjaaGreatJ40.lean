import Derived.Test.YtmehinfgdcmmjaaGreatJ38
import Derived.Test.YtmehinfgdcmmjaaGreatJ39
import Derived.Test.YtmehinfgdcmmjaaGreatJ26
import Derived.Test.YtmehinfgdcmmjaaGreatJ20
import Derived.Test.YtmehinfgdcmmjaaGreatJ7
import Derived.Test.YtmehinfgdcmmjaaGreatJ24
import Derived.Test.YtmehinfgdcmmjaaGreatJ25
namespace Go.Proofs.YtmehinfgdcmmjaaGreat
open Go.Sx
set_option maxRecDepth 20000
set_option maxHeartbeats 4000000
set_option linter.unusedVariables false
namespace Cm
theorem tabs_ok (x:Po.T) (room:Int):∀ (k i:Nat) (acc:List (List Ru.R)),(tabs x room k i acc).2.2=0→(tabs x room k i acc).1.length=acc.length+k∧(∀ j,j<k→(tb x room (i+j)).2=0∧(tabs x room k i acc).1[acc.length+j]?=some (tb x room (i+j)).1)∧∀ j,j<acc.length→(tabs x room k i acc).1[j]?=acc[j]?
 | 0,i,acc,_=>⟨rfl,fun j hj=>absurd hj (Nat.not_lt_zero _),fun _ _=>rfl⟩
 | k+1,i,acc,h=>by
  rw [tabs] at h ⊢
  by_cases hb:(tb x room i).2=0
  ·rw [if_pos hb] at h ⊢
   obtain ⟨h1,h2,h3⟩:=tabs_ok x room k (i+1) _ h
   rw [List.length_append,List.length_singleton] at h1 h3
   refine ⟨by omega,fun j hj=>?_,fun j hj=>?_⟩
   ·cases j with
    | zero =>
     refine ⟨hb,?_⟩
     simp only [Nat.add_zero]
     rw [h3 _ (by omega),List.getElem?_append_right (Nat.le_refl _),Nat.sub_self]
     rfl
    | succ j =>
     obtain ⟨h4,h5⟩:=h2 j (by omega)
     rw [List.length_append,List.length_singleton] at h5
     rw [show i+(j+1)=i+1+j by omega,show acc.length+(j+1)=acc.length+1+j by omega]
     exact ⟨h4,h5⟩
   ·rw [h3 j (by omega),List.getElem?_append_left hj]
  ·rw [if_neg hb] at h
   exact absurd h hb
theorem tabs_bad (x:Po.T) (room:Int):∀ (k i:Nat) (acc:List (List Ru.R)),(tabs x room k i acc).2.2≠0→(tabs x room k i acc).1=[]∧∃ j,(tabs x room k i acc).2.2=(tb x room j).2
 | 0,i,acc,h=>absurd rfl h
 | k+1,i,acc,h=>by
  rw [tabs] at h ⊢
  by_cases hb:(tb x room i).2=0
  ·rw [if_pos hb] at h ⊢
   exact tabs_bad x room k (i+1) _ h
  ·rw [if_neg hb] at h ⊢
   exact ⟨rfl,i,rfl⟩
def known (e:Int):Prop:=e=10∨e=3∨e=6∨e=17∨e=13∨e=2
theorem tb_err (x:Po.T) (room:Int) (i:Nat):(tb x room i).2=0∨known (tb x room i).2:=by
 unfold tb tbl
 split
 ·rename_i h
  right
  unfold Tr.ans at h ⊢
  split
  ·rename_i hr
   rw [if_pos hr] at h
   exact absurd rfl h
  ·unfold known;omega
 ·split
  ·rcases scan_err (Tr.ans i x).1 with h | h | h
   ·rename_i h2;exact absurd h h2
   ·right;unfold known;omega
   ·right;unfold known;omega
  ·split
   ·right;unfold known;omega
   ·exact .inl rfl
theorem check_err (bt:Bool) (t:Tp.T) (x:Po.T):Po.check bt t x=0∨known (Po.check bt t x):=by
 unfold Po.check known
 repeat' split
 all_goals omega
theorem comp_ok {bt:Bool} {t:Tp.T} {o:Po.T × Int × Int} {room:Int} (h:(comp bt t o room).2.2=0) :
  o.2.2=0∧bt=true∧Po.right o.1=true∧(comp bt t o room).1.length=t.n.toNat∧∀ j,j<t.n.toNat→(tb o.1 room j).2=0∧(comp bt t o room).1[j]?=some (tb o.1 room j).1:=by
 unfold comp at h ⊢
 by_cases h1:o.2.2=0
 rotate_left
 ·rw [if_pos h1] at h;exact absurd h h1
 rw [if_neg (by simpa using h1)] at h ⊢
 by_cases h2:Po.check bt t o.1=0
 rotate_left
 ·rw [if_pos h2] at h;exact absurd h h2
 rw [if_neg (by simpa using h2)] at h ⊢
 obtain ⟨h3,h4,_⟩:=tabs_ok o.1 room _ 0 [] h
 have hb:bt=true:=by
  cases bt with
  | true=>rfl
  | false=>unfold Po.check at h2;rw [if_pos rfl] at h2;exact absurd h2 (by decide)
 have hr:Po.right o.1=true:=by
  unfold Po.check at h2
  rw [if_neg (by rw [hb];decide)] at h2
  cases hr:Po.right o.1 with
  | true=>rfl
  | false=>rw [if_pos hr] at h2;exact absurd h2 (by decide)
 refine ⟨h1,hb,hr,by simpa using h3,fun j hj=>?_⟩
 have:=h4 j hj
 simp only [Nat.zero_add,List.length_nil] at this
 exact this
theorem comp_bad {bt:Bool} {t:Tp.T} {o:Po.T × Int × Int} {room:Int} (ho:o.2.2=0∨known o.2.2) (h:(comp bt t o room).2.2≠0) :
  (comp bt t o room).1=[]∧known (comp bt t o room).2.2∧(o.2.2=0∨(comp bt t o room).2.2=o.2.2):=by
 unfold comp at h ⊢
 by_cases h1:o.2.2=0
 rotate_left
 ·rw [if_pos h1]
  rcases ho with ho | ho
  ·exact absurd ho h1
  ·exact ⟨rfl,ho,.inr rfl⟩
 rw [if_neg (by simpa using h1)] at h ⊢
 by_cases h2:Po.check bt t o.1=0
 rotate_left
 ·rw [if_pos h2]
  exact ⟨rfl,(check_err bt t o.1).resolve_left h2,.inl h1⟩
 rw [if_neg (by simpa using h2)] at h ⊢
 obtain ⟨h3,j,h4⟩:=tabs_bad o.1 room _ _ _ h
 refine ⟨h3,?_,.inl h1⟩
 rw [h4] at h ⊢
 exact (tb_err o.1 room j).resolve_left h
theorem out_err (tx:List UInt8):(Ps.out27 tx).2.2=0∨known (Ps.out27 tx).2.2:=by
 unfold Ps.out27
 rcases Lx.all_cases tx with ⟨L,hL,hl,ha⟩ | ⟨_,a,hb⟩ | ⟨_,a,hb⟩
 ·rw [ha]
  unfold Ps.out
  dsimp only
  split
  ·exact .inl rfl
  ·exact .inr (.inl rfl)
 ·rw [hb];right;exact .inl rfl
 ·rw [hb];right;exact .inr (.inr (.inl rfl))
end Cm
namespace Lx
theorem skip_one (u:List UInt8):skip (32::u)=skip u:=by
 have e:(32::u).dropWhile isSp=u.dropWhile isSp:=List.dropWhile_cons_of_pos (by decide)
 cases hu:u.dropWhile isSp with
 | nil=>rw [skip_nil (e.trans hu),skip_nil hu]
 | cons c r=>rw [skip_cons (e.trans hu),skip_cons hu]
theorem sk_at {tx:List UInt8} {i:Nat} {c:UInt8} {r:List UInt8} (h:tx.drop i=c::r) (h1:isSp c=false) (h2:c≠35):sk tx i=i:=by
 have hl:=congrArg List.length h
 rw [List.length_drop,List.length_cons] at hl
 unfold sk
 rw [h,skip_id h1 h2,List.length_cons]
 omega
theorem sk_sp {tx:List UInt8} {i:Nat} {c:UInt8} {r:List UInt8} (h:tx.drop i=32::c::r) (h1:isSp c=false) (h2:c≠35):sk tx i=i+1:=by
 have hl:=congrArg List.length h
 rw [List.length_drop,List.length_cons,List.length_cons] at hl
 unfold sk
 rw [h,skip_one,skip_id h1 h2,List.length_cons]
 omega
theorem sk_end {tx:List UInt8}:sk tx tx.length=tx.length:=by
 unfold sk
 rw [List.drop_length,skip_nil rfl]
 rfl
theorem run_one {tx:List UInt8} {f i j n:Nat} {out:List T} {b:B} (hj:sk tx i=j) (hl:j≠tx.length) (hb:nextB (tx.drop j)=some (b,n)) (ho:out.length≠500):run tx (f+1) i out=run tx f (j+n) (out++[⟨b.k,b.n,b.s,(j:Nat)⟩]):=by
 rw [run,hj,if_neg hl,hb]
 dsimp only
 rw [if_neg ho]
theorem run_end {tx:List UInt8} {f i:Nat} {out:List T} (hi:i=tx.length):run tx (f+1) i out = .ok (out++[⟨4,0,[],tx.length⟩]):=by
 subst hi
 rw [run,sk_end,if_pos rfl]
end Lx
namespace Cm
def t1:List UInt8:=[119,104,101,110,32,100,115,116,32,61,32,49,59,32,112,111,114,116,32,58,61,32,50]
def t2:List UInt8:=[119,104,101,110,32,100,115,116,59,32,112,111,114,116,32,58,61,32,50]
theorem t1_all:Lx.all t1 = .ok [⟨1,0,[119,104,101,110],0⟩,⟨1,0,[100,115,116],5⟩,⟨3,0,[61],9⟩,⟨2,1,[],11⟩,⟨3,0,[59],12⟩,⟨1,0,[112,111,114,116],14⟩,⟨3,0,[58,61],19⟩,⟨2,2,[],22⟩,⟨4,0,[],23⟩]:=by
 unfold Lx.all
 refine Eq.trans (Lx.run_one (tx:=t1) (i:=0) (j:=0) (Lx.sk_at rfl rfl (by decide)) (by decide) (by rfl) (by decide)) ?_
 refine Eq.trans (Lx.run_one (tx:=t1) (i:=4) (j:=5) (Lx.sk_sp rfl rfl (by decide)) (by decide) (by rfl) (by decide)) ?_
 refine Eq.trans (Lx.run_one (tx:=t1) (i:=8) (j:=9) (Lx.sk_sp rfl rfl (by decide)) (by decide) (by rfl) (by decide)) ?_
 refine Eq.trans (Lx.run_one (tx:=t1) (i:=10) (j:=11) (Lx.sk_sp rfl rfl (by decide)) (by decide) (by rfl) (by decide)) ?_
 refine Eq.trans (Lx.run_one (tx:=t1) (i:=12) (j:=12) (Lx.sk_at rfl rfl (by decide)) (by decide) (by rfl) (by decide)) ?_
 refine Eq.trans (Lx.run_one (tx:=t1) (i:=13) (j:=14) (Lx.sk_sp rfl rfl (by decide)) (by decide) (by rfl) (by decide)) ?_
 refine Eq.trans (Lx.run_one (tx:=t1) (i:=18) (j:=19) (Lx.sk_sp rfl rfl (by decide)) (by decide) (by rfl) (by decide)) ?_
 refine Eq.trans (Lx.run_one (tx:=t1) (i:=21) (j:=22) (Lx.sk_sp rfl rfl (by decide)) (by decide) (by rfl) (by decide)) ?_
 exact Lx.run_end rfl
theorem t2_all:Lx.all t2 = .ok [⟨1,0,[119,104,101,110],0⟩,⟨1,0,[100,115,116],5⟩,⟨3,0,[59],8⟩,⟨1,0,[112,111,114,116],10⟩,⟨3,0,[58,61],15⟩,⟨2,2,[],18⟩,⟨4,0,[],19⟩]:=by
 unfold Lx.all
 refine Eq.trans (Lx.run_one (tx:=t2) (i:=0) (j:=0) (Lx.sk_at rfl rfl (by decide)) (by decide) (by rfl) (by decide)) ?_
 refine Eq.trans (Lx.run_one (tx:=t2) (i:=4) (j:=5) (Lx.sk_sp rfl rfl (by decide)) (by decide) (by rfl) (by decide)) ?_
 refine Eq.trans (Lx.run_one (tx:=t2) (i:=8) (j:=8) (Lx.sk_at rfl rfl (by decide)) (by decide) (by rfl) (by decide)) ?_
 refine Eq.trans (Lx.run_one (tx:=t2) (i:=9) (j:=10) (Lx.sk_sp rfl rfl (by decide)) (by decide) (by rfl) (by decide)) ?_
 refine Eq.trans (Lx.run_one (tx:=t2) (i:=14) (j:=15) (Lx.sk_sp rfl rfl (by decide)) (by decide) (by rfl) (by decide)) ?_
 refine Eq.trans (Lx.run_one (tx:=t2) (i:=17) (j:=18) (Lx.sk_sp rfl rfl (by decide)) (by decide) (by rfl) (by decide)) ?_
 exact Lx.run_end rfl
def x1:Po.T:=.mk 3 Po.noneP 0 0 [.mk 1 (.mk 3 1 1 []) 0 0 [],.mk 2 Po.noneP 4 2 []]
theorem t1_out:Ps.out27 t1=(x1,0,0):=by unfold Ps.out27;rw [t1_all];rfl
theorem t2_out:Ps.out27 t2=(Ps.zero27,8,10):=by unfold Ps.out27;rw [t2_all];rfl
theorem x1_few:Tr.few x1=true:=by decide +kernel
theorem x1_comp:(comp true exTop (x1,0,0) 9).2=(0,0)∧(comp true exTop (x1,0,0) 9).1.map List.length=[2]:=by decide +kernel
theorem x2_comp:comp true exTop (Ps.zero27,8,10) 9=([],8,10):=rfl
end Cm
set_option linter.unusedSimpArgs false
theorem oH (f:Int) (hf:0≤f∧f≤5):NCall Tryz.prog 158 [.int .i64 f] [] fun r _=>r = .str (Pd.word f):=by
 have:f=0∨f=1∨f=2∨f=3∨f=4∨f=5:=by omega
 refine aA Tryz.func158 rfl (by decide) ?_
 rcases this with rfl | rfl | rfl | rfl | rfl | rfl
 all_goals (repeat' first|(refine sxZ ?_;try clear hK K)|refine sxW ?_ ?_<;>intro _|(intro K hK _;conv=>whnf))
 all_goals simp [Pd.word]
namespace Ps
def Apart (l:List Lx.T):Prop:=∀ (i:Nat) (x:Lx.T),l[i]?=some x→x.k=3→x.s ∉ words
theorem words_at:∀ f:Nat,f<6→words[f]?=some (Pd.word f):=by decide +kernel
theorem is_at {l:List Lx.T} {i:Nat} {x:Lx.T} (hx:l[i]?=some x) (ha:Apart l) {f:Nat} (hf:f<6):is (l.map Lx.b) i (Pd.word f)=true↔(x.k=1∧x.s=Pd.word f):=by
 rw [is_b hx]
 simp only [Bool.and_eq_true,Bool.or_eq_true,decide_eq_true_eq]
 constructor
 ·rintro ⟨h1 | h1,h2⟩
  ·exact ⟨h1,h2⟩
  ·exact (ha i x hx h1 (by rw [h2];exact List.mem_of_getElem? (words_at f hf))).elim
 ·rintro ⟨h1,h2⟩
  exact ⟨.inl h1,h2⟩
theorem field_hit {l:List Lx.T} {i:Nat} {x:Lx.T} (hx:l[i]?=some x) (ha:Apart l) {many f:Nat} (hm:many≤6) (hf:f<many) (hno:∀ g:Nat,g<f→is (l.map Lx.b) i (Pd.word g)=false) (hy:is (l.map Lx.b) i (Pd.word f)=true):field (l.map Lx.b) i many=some f:=by
 obtain ⟨h1,h2⟩:=(is_at hx ha (by omega)).1 hy
 unfold field
 rw [tk_b hx]
 rw [show (Lx.b x).k=1 from h1,if_pos rfl]
 have hl:(words.take many).length=many:=by rw [List.length_take];show min many 6=many;omega
 refine List.findIdx?_eq_some_iff_getElem.2 ⟨by omega,?_,fun j hj=>?_⟩
 ·have:=words_at f (by omega)
  rw [List.getElem_take]
  rw [decide_eq_true_eq]
  have e:words[f]'(by show f<6;omega)=Pd.word f:=(List.getElem?_eq_some_iff.1 this).2
  rw [e];exact h2.symm
 ·have:=words_at j (by omega)
  rw [List.getElem_take]
  have e:words[j]'(by show j<6;omega)=Pd.word j:=(List.getElem?_eq_some_iff.1 this).2
  rw [decide_eq_true_eq,e]
  intro he
  have:=(is_at hx ha (f:=j) (by omega)).2 ⟨h1,he.symm⟩
  rw [hno j hj] at this;cases this
theorem field_no {l:List Lx.T} {i:Nat} {x:Lx.T} (hx:l[i]?=some x) (ha:Apart l) {many:Nat} (hm:many≤6) (hno:∀ g:Nat,g<many→is (l.map Lx.b) i (Pd.word g)=false):field (l.map Lx.b) i many=none:=by
 unfold field
 rw [tk_b hx]
 split
 ·rename_i h1
  have hl:(words.take many).length=many:=by rw [List.length_take];show min many 6=many;omega
  refine List.findIdx?_eq_none_iff.2 fun w hw=>?_
  obtain ⟨j,hj⟩:=List.getElem?_of_mem hw
  have hjl:=(List.getElem?_eq_some_iff.1 hj).1
  rw [hl] at hjl
  rw [List.getElem?_take_of_lt hjl,words_at j (by omega)] at hj
  injection hj with hj
  subst hj
  rw [decide_eq_false_iff_not]
  intro he
  have:=(is_at hx ha (f:=j) (by omega)).2 ⟨h1,he.symm⟩
  rw [hno j hjl] at this;cases this
 ·rfl
def fieldI (l:List Lx.B) (i many:Nat):Int:=match field l i many with
 | some f=>(f:Nat)
 | none=>-1
end Ps
section
variable (F:Heap) (v:Value) (l:List Lx.T) (hv:Ps.Toks F v l) (hn:l.length≤1000)
include hv hn
theorem aR {i:Nat} {x:Lx.T} (hx:l[i]?=some x) (s:List UInt8):NCall Tryz.prog 36 [.hs v l.length,.int .i64 i,.str s] [hpB F] fun r m=>r = .bool (Ps.is (l.map Lx.b) i s)∧m=[hpB F]:=by
 refine NCall.fits (K:=fun r m=>r = .bool (Ps.is (l.map Lx.b) i s)∧MemFits m [hpB F]) ?_ fun r m' h=>⟨r,_,rfl,h.2,h.1,rfl⟩
 have hn2:=hn
 have hok:=hv.ok
 have hil:=(List.getElem?_eq_some_iff.1 hx).1
 obtain ⟨c0,c1,c2,c3⟩:=hv.get hx
 rw [Ps.is_b hx]
 obtain ⟨k,n,t,a⟩:=x
 dsimp only at *
 refine aA Tryz.func36 rfl (by decide) ?_
 by_cases k1:k=1
 ·repeat' first|(refine aV [0] ?_;try clear hK K)|refine sxW ?_ ?_<;>intro _|refine aW ?_ ?_|(intro K hK _;conv=>whnf)
  all_goals exact ⟨by rw [decide_eq_true k1];simp,MemFits.pre 1 rfl⟩
 by_cases k3:k=3
 ·repeat' first|(refine aV [0] ?_;try clear hK K)|refine sxW ?_ ?_<;>intro _|refine aW ?_ ?_|(intro K hK _;conv=>whnf)
  all_goals exact ⟨by rw [decide_eq_true k3];simp,MemFits.pre 1 rfl⟩
 ·repeat' first|(refine aV [0] ?_;try clear hK K)|refine sxW ?_ ?_<;>intro _|refine aW ?_ ?_|(intro K hK _;conv=>whnf)
  all_goals exact ⟨by rw [decide_eq_false k1,decide_eq_false k3];simp,MemFits.pre 1 rfl⟩
theorem lZ (ha:Ps.Apart l) {i:Nat} (hi:i<l.length) (many:Nat) (hm:many≤6):NCall Tryz.prog 118 [.hs v l.length,.int .i64 i,.int .i64 many] [hpB F] fun r m=>r = .int .i64 (Ps.fieldI (l.map Lx.b) i many)∧m=[hpB F]:=by
 refine NCall.fits (K:=fun r m=>r = .int .i64 (Ps.fieldI (l.map Lx.b) i many)∧MemFits m [hpB F]) ?_ fun r m' h=>⟨r,_,rfl,h.2,h.1,rfl⟩
 have hok:=hv.ok
 have hx:l[i]?=some l[i]:=List.getElem?_eq_getElem hi
 have hhit:=fun f=>@Ps.field_hit l i _ hx ha many f hm
 have hnone:=@Ps.field_no l i _ hx ha many hm
 have cis:=aR F v l hv hn hx
 refine aA Tryz.func118 rfl (by decide) ?_
 repeat' first|(refine sxZ ?_;try clear hK K)|refine sxW ?_ ?_<;>intro _|(intro K hK _;conv=>whnf)
 refine aD (α:=Nat) (fun f=>f≤many∧∀ g:Nat,g<f→Ps.is (l.map Lx.b) i (Pd.word g)=false) (fun f=>[.k,.k,.k,.k,.k,.k,.d,.set (.int .i64 f),.d,.d,.d,.d,.d,.d,.d,.d,.d,.d,.d]) (fun _=>[]) (fun f=>many - f) 0 ⟨Nat.zero_le _,fun g hg=>by omega⟩ ?_ ?_ ?_
 ·exact aC
 ·exact MemFits.eq rfl
 (intro f ⟨hf,hno⟩;intro K hK;(conv=>whnf);refine hK _ _ ?_;clear hK K)
 by_cases hlt:f<many
 ·have cw:=oH (f:Nat) (by omega)
  have cis:=cis (Pd.word (f:Nat))
  cases hq:Ps.is (l.map Lx.b) i (Pd.word (f:Nat)) with
  | true =>
   rw [hq] at cis
   have hres:Ps.fieldI (l.map Lx.b) i many=(f:Nat):=by unfold Ps.fieldI;rw [hhit f hlt hno hq]
   repeat' first|(intro K hK;(with_reducible refine gC ?_);first|refine cP cw ?_|refine cS [0] cis ?_)|(refine sxZ ?_;try clear hK K)|refine sxW ?_ ?_<;>intro _|(intro K hK _;conv=>whnf)
   all_goals exact ⟨by rw [hres],MemFits.pre 1 rfl⟩
  | false =>
   rw [hq] at cis
   repeat' first|(intro K hK;(with_reducible refine gC ?_);first|refine cP cw ?_|refine cS [0] cis ?_)|(refine sxZ ?_;try clear hK K)|refine sxW ?_ ?_<;>intro _|(intro K hK _;conv=>whnf)
   refine aB (f+1) ⟨hlt,fun g hg=>?_⟩ (by omega) ?_ (MemFits.pre 1 rfl)
   ·rcases Nat.lt_or_ge g f with h | h
    ·exact hno g h
    ·obtain rfl:g=f:=by omega
     exact hq
   ·exact aC
 ·have hres:Ps.fieldI (l.map Lx.b) i many = -1:=by unfold Ps.fieldI;rw [hnone fun g hg=>hno g (by omega)]
  repeat' first|(refine sxZ ?_;try clear hK K)|refine sxW ?_ ?_<;>intro _|(intro K hK _;conv=>whnf)
  all_goals exact ⟨by rw [hres],MemFits.pre 1 rfl⟩
theorem fc (hl:Ps.Good l) (ha:Ps.Apart l) {i:Nat} (hi:i<l.length) (many:Nat) (hm:many≤6) (sign:List UInt8):NCall Tryz.prog 97 [.hs v l.length,.int .i64 i,.int .i64 many,.str sign] [hpB F] fun r m =>
  ∃ (f w:Int) (j:Nat) (ok:Bool),i≤j∧j<l.length∧Ps.assign (l.map Lx.b) many sign i=(if ok=true then .ok (f,w) j else .bad j)∧r = .tup [.int .i64 f,.int .i64 w,.int .i64 j,.bool ok]∧m=[hpB F]:=by
 refine NCall.fits (K:=fun r m=>∃ (f w:Int) (j:Nat) (ok:Bool),i≤j∧j<l.length∧Ps.assign (l.map Lx.b) many sign i=(if ok=true then .ok (f,w) j else .bad j)∧r = .tup [.int .i64 f,.int .i64 w,.int .i64 j,.bool ok]∧MemFits m [hpB F]) ?_ fun r m' ⟨f,w,j,ok,h0,h1,h2,h3,h4⟩=>⟨r,_,rfl,h4,f,w,j,ok,h0,h1,h2,h3,rfl⟩
 have hok:=hv.ok
 have hx:l[i]?=some l[i]:=List.getElem?_eq_getElem hi
 have cf:=lZ F v l hv hn ha hi many hm
 unfold Ps.fieldI at cf
 have hkey:∀ q,Ps.field (l.map Lx.b) i many=some q→i+1<l.length:=fun q h=>by
  unfold Ps.field at h
  split at h
  ·rename_i h1
   rw [Ps.tk_b hx] at h1
   exact hl.end_ i _ hx (by rw [show l[i].k=1 from h1];decide)
  ·cases h
 unfold Ps.assign
 cases hq:Ps.field (l.map Lx.b) i many with
 | none =>
  rw [hq] at cf
  dsimp only at cf
  refine aA Tryz.func97 rfl (by decide) ?_
  repeat' first|(intro K hK;(with_reducible refine gC ?_);refine cS [0] cf ?_)|(refine sxZ ?_;try clear hK K)|refine sxW ?_ ?_<;>intro _|(intro K hK _;conv=>whnf)
  all_goals exact ⟨0,0,i,false,Nat.le_refl _,hi,rfl,rfl,MemFits.pre 1 rfl⟩
 | some f =>
  rw [hq] at cf
  dsimp only at cf
  have h1:=hkey f hq
  have hx1:l[i+1]?=some l[i+1]:=List.getElem?_eq_getElem h1
  have ci:=aR F v l hv hn hx1 sign
  have hnx:=hl.next hx1 (s:=sign)
  have hf1:¬ (f:Int) = -1:=by omega
  dsimp only
  refine aA Tryz.func97 rfl (by decide) ?_
  cases hs:Ps.is (l.map Lx.b) (i+1) sign with
  | false =>
   rw [hs] at ci
   repeat' first|((try intro K hK);(with_reducible refine gC ?_);first|refine cS [0] cf ?_|refine cS [0] ci ?_)|((first|intro A B hA hB|intro K hK|skip);first|((with_reducible refine NIf.yes ?s ?_);(case s=>simp [hf1];done);conv=>whnf)|((with_reducible refine NIf.no ?s ?_);(case s=>simp [hf1];done);conv=>whnf))|(refine sxZ ?_;(try clear hK K);try clear hA hB A B)|refine sxW ?_ ?_<;>intro _|(intro K hK _;conv=>whnf)
   all_goals exact ⟨0,0,i+1,false,by omega,h1,rfl,rfl,MemFits.pre 1 rfl⟩
  | true =>
   rw [hs] at ci
   have h2:=hnx hs
   have hx2:l[i+2]?=some l[i+2]:=List.getElem?_eq_getElem h2
   obtain ⟨c0,c1,_,_⟩:=hv.get hx2
   have hend:=hl.end_ (i+2) _ hx2
   rw [Ps.tk_b hx2]
   generalize l[i+2]=y at *
   obtain ⟨k,n,t,a⟩:=y
   dsimp only [Lx.b] at *
   rw [show i+2=((i:Int)+2).toNat by omega] at c0 c1
   by_cases hk:k=2
   ·have h3:=hend (by omega)
    repeat' first|((try intro K hK);(with_reducible refine gC ?_);first|refine cS [0] cf ?_|refine cS [0] ci ?_)|((first|intro A B hA hB|intro K hK|skip);first|((with_reducible refine NIf.yes ?s ?_);(case s=>simp [hf1];done);conv=>whnf)|((with_reducible refine NIf.no ?s ?_);(case s=>simp [hf1];done);conv=>whnf))|(refine sxO ?_;(try clear hK K);try clear hA hB A B)|refine sxW ?_ ?_<;>intro _|refine sxV ?_ ?_|(intro K hK _;conv=>whnf)
    all_goals exact ⟨f,n,i+3,true,by omega,h3,if_pos hk,rfl,MemFits.pre 1 rfl⟩
   ·repeat' first|((try intro K hK);(with_reducible refine gC ?_);first|refine cS [0] cf ?_|refine cS [0] ci ?_)|((first|intro A B hA hB|intro K hK|skip);first|((with_reducible refine NIf.yes ?s ?_);(case s=>simp [hf1];done);conv=>whnf)|((with_reducible refine NIf.no ?s ?_);(case s=>simp [hf1];done);conv=>whnf))|(refine sxO ?_;(try clear hK K);try clear hA hB A B)|refine sxW ?_ ?_<;>intro _|refine sxV ?_ ?_|(intro K hK _;conv=>whnf)
    all_goals exact ⟨0,0,i+2,false,by omega,h2,if_neg hk,rfl,MemFits.pre 1 rfl⟩
end
namespace Ps
def Out26 (F:Heap) (l:List Lx.T) (q:R Pd.T) (i:Nat) (r:AV) (m:List Blk):Prop :=
 ∃ (x:Pd.T) (u:Value) (j:Nat) (G:Heap) (ok:Bool),F.le G∧Pd.Row G u x.l∧i≤j∧j<l.length∧q=(if ok=true then .ok x j else .bad j)∧r = .tup [.agg (Pd.cs x u),.int .i64 j,.bool ok]∧m=[hpB G]
def D26 (v:Value) (l:List Lx.T) (f:FuncId) (q:R Pd.T) (i:Nat):Prop :=
 ∀ (F:Heap),Toks F v l→NCall Tryz.prog f [.hs v l.length,.int .i64 i] [hpB F] (Out26 F l q i)
def Out27 (F:Heap) (l:List Lx.T) (q:R Po.T) (i:Nat) (r:AV) (m:List Blk):Prop :=
 ∃ (x:Po.T) (pu u:Value) (j:Nat) (G:Heap) (ok:Bool),F.le G∧Po.At G x pu u∧i≤j∧j<l.length∧q=(if ok=true then .ok x j else .bad j)∧r = .tup [.agg (Po.cs x pu u),.int .i64 j,.bool ok]∧m=[hpB G]
def D27 (v:Value) (l:List Lx.T) (f:FuncId) (q:R Po.T) (i:Nat):Prop :=
 ∀ (F:Heap),Toks F v l→NCall Tryz.prog f [.hs v l.length,.int .i64 i] [hpB F] (Out27 F l q i)
end Ps
theorem gc (v:Value) (l:List Lx.T) (hl:Ps.Good l) (sp:Nat→Ps.R Pd.T) (i0:Nat) (hi0:i0<l.length) (hg:∀ i,i0≤i→i<l.length→Ps.D26 v l 157 (sp i) i):Ps.D26 v l 117 (Ps.wrap (fun xs=>Pd.T.mk 5 0 0 xs) (Ps.chain (l.map Lx.b) Ps.wAnd sp i0)) i0:=by
 intro F hv
 refine NCall.know (K:=fun r m=>∃ (y:Pd.T) (j:Nat) (G:Heap) (w:Value) (ok:Bool),F.le G∧i0≤j∧j<l.length∧Ps.wrap (fun xs=>Pd.T.mk 5 0 0 xs) (Ps.chain (l.map Lx.b) Ps.wAnd sp i0)=(if ok=true then .ok y j else .bad j)∧r.den=(AV.tup [.agg (Pd.cs y w),.int .i64 j,.bool ok]).den∧((Pd.Row G w y.l∧MemFits m [hpB G])∨(∃ ps:List (Pd.T × Value),y.l=ps.map (·.1)∧(∀ p∈ps,Pd.Row G p.2 p.1.l)∧MemFits m [hpB G,⟨addrOf w,Pd.psC ps,.row w 30 4 ps.length⟩]))) ?_ fun r m' hq ⟨w0,hw0⟩=>?_
 rotate_left
 ·obtain ⟨y,j,G,w,ok,h1,h2,h3,h4,h5,h6⟩:=hq
  rcases h6 with ⟨h6,h7⟩ | ⟨ps,e,h6,h7⟩
  ·exact ⟨_,_,h5.symm,h7,y,w,j,G,ok,h1,h6,h2,h3,h4,rfl,rfl⟩
  ·have hok:=((h7 w0 hw0).1.row (List.mem_cons_of_mem _ (List.mem_cons_self ..))).1
   have hrow:=aJ (F:=G) (sz:=4) (enc:=Pd.psV) hok (Pd.psC_den ps) (fun x _=>rfl)
   have hr:=Pd.row_of hrow fun p hp=>Pd.Row.mono addF.old (h6 p hp)
   rw [← e] at hr
   exact ⟨_,_,h5.symm,h7.trans (MemFits.freeze (m:=[])),y,w,j,_,ok,h1.trans addF.old,hr,h2,h3,h4,rfl,rfl⟩
 have c0:=hg i0 (Nat.le_refl _) hi0 F hv
 have hn:=hl.few
 have hspec:Ps.chain (l.map Lx.b) Ps.wAnd sp i0=match sp i0 with
  | .ok x j=>Ps.more (l.map Lx.b) Ps.wAnd sp ((l.map Lx.b).length+1 - j) [x] j
  | .bad j=>.bad j:=by unfold Ps.chain;cases sp i0<;>rfl
 have hlen:(l.map Lx.b).length=l.length:=List.length_map ..
 rw [hlen] at hspec
 generalize Ps.chain (l.map Lx.b) Ps.wAnd sp i0=res at *
 refine aA Tryz.func117 rfl (by decide) ?_
 repeat' first|(intro K hK;(with_reducible refine gC ?_);(refine cN [0] c0 ?_;rintro _ _ ⟨x,u,j,G,ok,h1,h2,h3,h4,h5,rfl,rfl⟩;refine cR ?_))|(refine sxZ ?_;try clear hK K)|refine sxW ?_ ?_<;>intro _|(intro K hK _;conv=>whnf)
 rename_i b0 b1 b2
 have hinit:res=(if ok=true then Ps.more (l.map Lx.b) Ps.wAnd sp (l.length+1 - j) [x] j else .bad j):=by
  rw [hspec,h5]
  cases ok<;>rfl
 clear hspec h5
 refine aD (α:=Heap × Value × List (Pd.T × Value) × (Pd.T × Value) × Nat × Bool × Nat) (fun (G,w,ps,(x,u),j,ok,n)=>F.le G∧(∀ p∈ps,Pd.Row G p.2 p.1.l)∧Pd.Row G u x.l∧i0≤j∧j<l.length∧res=(if ok=true then Ps.more (l.map Lx.b) Ps.wAnd sp n (ps.map (·.1)) j else .bad j)∧l.length - j<n∧1≤ps.length∧ps.length≤j+1∧(ps.length=1→ps=[(x,u)]))
  (fun (G,w,ps,(x,u),j,ok,n)=>[.k,.k,.k,.k,.k,.k,.k,.k,.set (.int .i64 j),.set (.bool ok),.set (.sl 3 w ps.length),.k,.k,.k,.k,.k,.k,.k,.k,.k,.d,.d,.d,.d,.d,.d,.d,.d,.d,.d,.d,.d,.d,.d,.d,.d,.d,.d,.k,.k,.k,.k,.k,.k,.k,.k,.k,.k]) (fun (G,w,ps,(x,u),j,ok,n)=>[.set (hpB G),.k,.set ⟨⟨b1,0,none⟩,Pd.cs x u,.var 30⟩,.set ⟨addrOf w,Pd.psC ps,.row w 30 4 ps.length⟩]) (fun (G,w,ps,(x,u),j,ok,n)=>if ok=true then l.length - j else 0)
  (G,.slice (some ⟨b2,0,none⟩) 1 1,[(x,u)],(x,u),j,ok,l.length+1 - j) ⟨h1,fun p hp=>by rw [List.mem_singleton.1 hp];exact h2,h2,h3,h4,hinit,by omega,Nat.le_refl _,by simp,fun _=>rfl⟩ ?_ ?_ ?_
 ·exact aC
 ·exact MemFits.eq rfl
 (intro ⟨G1,w,ps,(x,u),j1,ok1,n⟩ ⟨hle,hall,hrow,hij,hjl,hres,hnl,hp1,hpl,hone⟩;intro K hK;(conv=>whnf);refine hK _ _ ?_;clear hK K)
 dsimp only at hle hall hrow hij hjl hres hnl hp1 hpl hone ⊢
 have hpc:=Pd.psC_len ps
 cases ok1 with
 | false =>
  rw [if_neg (by decide)] at hres
  by_cases h1:ps.length=1
  ·repeat' first|(refine sxZ ?_;try clear hK K)|refine sxW ?_ ?_<;>intro _|(intro K hK _;conv=>whnf)
   all_goals exact ⟨x,j1,G1,u,false,hle,hij,hjl,by rw [hres];rfl,rfl,.inl ⟨hrow,MemFits.pre 1 rfl⟩⟩
  ·repeat' first|(refine sxZ ?_;try clear hK K)|refine sxW ?_ ?_<;>intro _|(intro K hK _;conv=>whnf)
   all_goals exact ⟨Pd.T.mk 5 0 0 (ps.map (·.1)),j1,G1,w,false,hle,hij,hjl,by rw [hres];rfl,rfl,.inr ⟨ps,rfl,hall,MemFits.pick [0,3] (by decide) rfl⟩⟩
 | true =>
  rw [if_pos rfl] at hres
  obtain ⟨n,rfl⟩:∃ k,n=k+1:=⟨n - 1,by omega⟩
  have hx1:l[j1]?=some l[j1]:=List.getElem?_eq_getElem hjl
  have ci:=aR G1 v l (Ps.Toks.mono hle hv) hn hx1 Ps.wAnd
  have hnext:=hl.next hx1 (s:=Ps.wAnd)
  unfold Ps.more at hres
  cases hq:Ps.is (l.map Lx.b) j1 Ps.wAnd with
  | false =>
   rw [hq] at ci
   rw [hq,if_neg (by decide)] at hres
   unfold Ps.wAnd at ci
   by_cases h1:ps.length=1
   ·have e:=hone h1
    subst e
    repeat' first|(intro K hK;(with_reducible refine gC ?_);refine cS [0] ci ?_)|(refine sxZ ?_;try clear hK K)|refine sxW ?_ ?_<;>intro _|(intro K hK _;conv=>whnf)
    all_goals exact ⟨x,j1,G1,u,true,hle,hij,hjl,by rw [hres];rfl,rfl,.inl ⟨hrow,MemFits.pre 1 rfl⟩⟩
   ·have hwn:=Ps.wrap_not (f:=fun xs=>Pd.T.mk 5 0 0 xs) (xs:=ps.map (·.1)) (j:=j1) (by rw [List.length_map];exact h1)
    repeat' first|(intro K hK;(with_reducible refine gC ?_);refine cS [0] ci ?_)|(refine sxZ ?_;try clear hK K)|refine sxW ?_ ?_<;>intro _|(intro K hK _;conv=>whnf)
    all_goals exact ⟨Pd.T.mk 5 0 0 (ps.map (·.1)),j1,G1,w,true,hle,hij,hjl,by rw [hres];exact hwn,rfl,.inr ⟨ps,rfl,hall,MemFits.pick [0,3] (by decide) rfl⟩⟩
  | true =>
   rw [hq] at ci
   rw [hq,if_pos rfl] at hres
   unfold Ps.wAnd at ci
   have c1:=hg (j1+1) (by omega) (hnext hq) G1 (Ps.Toks.mono hle hv)
   repeat' first|(intro K hK;(with_reducible refine gC ?_);first|refine cS [0] ci ?_|(refine cN [0] c1 ?_;rintro _ _ ⟨x2,u2,j2,G2,ok2,k1,k2,k3,k4,k5,rfl,rfl⟩;refine cR ?_))|(refine sxZ ?_;try clear hK K)|refine sxW ?_ ?_<;>intro _|(intro K hK _;conv=>whnf)
   rename_i b3 w2
   have hpn:=Pd.psC_next ps (x2,u2)
   have hpl2:(ps++[(x2,u2)]).length=ps.length+1:=by rw [List.length_append];rfl
   have hres2:res=(if ok2=true then Ps.more (l.map Lx.b) Ps.wAnd sp n ((ps++[(x2,u2)]).map (·.1)) j2 else .bad j2):=by
    rw [hres,k5,List.map_append]
    cases ok2<;>rfl
   refine aB (G2,w2,ps++[(x2,u2)],(x2,u2),j2,ok2,n) ⟨hle.trans k1,fun p hp=>?_,k2,Nat.le_trans hij (Nat.le_trans (Nat.le_succ _) k3),k4,hres2,by dsimp only;omega,by dsimp only;rw [hpl2];omega,by dsimp only;rw [hpl2];omega,fun h=>by dsimp only at h;rw [hpl2] at h;omega⟩ (by show (if ok2=true then l.length - j2 else 0)<l.length - j1;split<;>omega) ?_ ?_
   ·rcases List.mem_append.1 hp with hp | hp
    ·exact Pd.Row.mono k1 (hall p hp)
    ·rw [List.mem_singleton.1 hp];exact k2
   ·dsimp only
    rw [hpl2]
    exact aC
   ·dsimp only
    rw [hpn,hpl2]
    exact MemFits.pre 4 rfl
theorem ia (v:Value) (l:List Lx.T) (hl:Ps.Good l) (sp:Nat→Ps.R Pd.T) (i0:Nat) (hi0:i0<l.length) (hg:∀ i,i0≤i→i<l.length→Ps.D26 v l 117 (sp i) i):Ps.D26 v l 95 (Ps.wrap (fun xs=>Pd.T.mk 6 0 0 xs) (Ps.chain (l.map Lx.b) Ps.wOr sp i0)) i0:=by
 intro F hv
 refine NCall.know (K:=fun r m=>∃ (y:Pd.T) (j:Nat) (G:Heap) (w:Value) (ok:Bool),F.le G∧i0≤j∧j<l.length∧Ps.wrap (fun xs=>Pd.T.mk 6 0 0 xs) (Ps.chain (l.map Lx.b) Ps.wOr sp i0)=(if ok=true then .ok y j else .bad j)∧r.den=(AV.tup [.agg (Pd.cs y w),.int .i64 j,.bool ok]).den∧((Pd.Row G w y.l∧MemFits m [hpB G])∨(∃ ps:List (Pd.T × Value),y.l=ps.map (·.1)∧(∀ p∈ps,Pd.Row G p.2 p.1.l)∧MemFits m [hpB G,⟨addrOf w,Pd.psC ps,.row w 30 4 ps.length⟩]))) ?_ fun r m' hq ⟨w0,hw0⟩=>?_
 rotate_left
 ·obtain ⟨y,j,G,w,ok,h1,h2,h3,h4,h5,h6⟩:=hq
  rcases h6 with ⟨h6,h7⟩ | ⟨ps,e,h6,h7⟩
  ·exact ⟨_,_,h5.symm,h7,y,w,j,G,ok,h1,h6,h2,h3,h4,rfl,rfl⟩
  ·have hok:=((h7 w0 hw0).1.row (List.mem_cons_of_mem _ (List.mem_cons_self ..))).1
   have hrow:=aJ (F:=G) (sz:=4) (enc:=Pd.psV) hok (Pd.psC_den ps) (fun x _=>rfl)
   have hr:=Pd.row_of hrow fun p hp=>Pd.Row.mono addF.old (h6 p hp)
   rw [← e] at hr
   exact ⟨_,_,h5.symm,h7.trans (MemFits.freeze (m:=[])),y,w,j,_,ok,h1.trans addF.old,hr,h2,h3,h4,rfl,rfl⟩
 have c0:=hg i0 (Nat.le_refl _) hi0 F hv
 have hn:=hl.few
 have hspec:Ps.chain (l.map Lx.b) Ps.wOr sp i0=match sp i0 with
  | .ok x j=>Ps.more (l.map Lx.b) Ps.wOr sp ((l.map Lx.b).length+1 - j) [x] j
  | .bad j=>.bad j:=by unfold Ps.chain;cases sp i0<;>rfl
 have hlen:(l.map Lx.b).length=l.length:=List.length_map ..
 rw [hlen] at hspec
 generalize Ps.chain (l.map Lx.b) Ps.wOr sp i0=res at *
 refine aA Tryz.func95 rfl (by decide) ?_
 repeat' first|(intro K hK;(with_reducible refine gC ?_);(refine cN [0] c0 ?_;rintro _ _ ⟨x,u,j,G,ok,h1,h2,h3,h4,h5,rfl,rfl⟩;refine cR ?_))|(refine sxZ ?_;try clear hK K)|refine sxW ?_ ?_<;>intro _|(intro K hK _;conv=>whnf)
 rename_i b0 b1 b2
 have hinit:res=(if ok=true then Ps.more (l.map Lx.b) Ps.wOr sp (l.length+1 - j) [x] j else .bad j):=by
  rw [hspec,h5]
  cases ok<;>rfl
 clear hspec h5
 refine aD (α:=Heap × Value × List (Pd.T × Value) × (Pd.T × Value) × Nat × Bool × Nat) (fun (G,w,ps,(x,u),j,ok,n)=>F.le G∧(∀ p∈ps,Pd.Row G p.2 p.1.l)∧Pd.Row G u x.l∧i0≤j∧j<l.length∧res=(if ok=true then Ps.more (l.map Lx.b) Ps.wOr sp n (ps.map (·.1)) j else .bad j)∧l.length - j<n∧1≤ps.length∧ps.length≤j+1∧(ps.length=1→ps=[(x,u)]))
  (fun (G,w,ps,(x,u),j,ok,n)=>[.k,.k,.k,.k,.k,.k,.k,.k,.set (.int .i64 j),.set (.bool ok),.set (.sl 3 w ps.length),.k,.k,.k,.k,.k,.k,.k,.k,.k,.d,.d,.d,.d,.d,.d,.d,.d,.d,.d,.d,.d,.d,.d,.d,.d,.d,.d,.k,.k,.k,.k,.k,.k,.k,.k,.k,.k]) (fun (G,w,ps,(x,u),j,ok,n)=>[.set (hpB G),.k,.set ⟨⟨b1,0,none⟩,Pd.cs x u,.var 30⟩,.set ⟨addrOf w,Pd.psC ps,.row w 30 4 ps.length⟩]) (fun (G,w,ps,(x,u),j,ok,n)=>if ok=true then l.length - j else 0)
  (G,.slice (some ⟨b2,0,none⟩) 1 1,[(x,u)],(x,u),j,ok,l.length+1 - j) ⟨h1,fun p hp=>by rw [List.mem_singleton.1 hp];exact h2,h2,h3,h4,hinit,by omega,Nat.le_refl _,by simp,fun _=>rfl⟩ ?_ ?_ ?_
 ·exact aC
 ·exact MemFits.eq rfl
 (intro ⟨G1,w,ps,(x,u),j1,ok1,n⟩ ⟨hle,hall,hrow,hij,hjl,hres,hnl,hp1,hpl,hone⟩;intro K hK;(conv=>whnf);refine hK _ _ ?_;clear hK K)
 dsimp only at hle hall hrow hij hjl hres hnl hp1 hpl hone ⊢
 have hpc:=Pd.psC_len ps
 cases ok1 with
 | false =>
  rw [if_neg (by decide)] at hres
  by_cases h1:ps.length=1
  ·repeat' first|(refine sxZ ?_;try clear hK K)|refine sxW ?_ ?_<;>intro _|(intro K hK _;conv=>whnf)
   all_goals exact ⟨x,j1,G1,u,false,hle,hij,hjl,by rw [hres];rfl,rfl,.inl ⟨hrow,MemFits.pre 1 rfl⟩⟩
  ·repeat' first|(refine sxZ ?_;try clear hK K)|refine sxW ?_ ?_<;>intro _|(intro K hK _;conv=>whnf)
   all_goals exact ⟨Pd.T.mk 6 0 0 (ps.map (·.1)),j1,G1,w,false,hle,hij,hjl,by rw [hres];rfl,rfl,.inr ⟨ps,rfl,hall,MemFits.pick [0,3] (by decide) rfl⟩⟩
 | true =>
  rw [if_pos rfl] at hres
  obtain ⟨n,rfl⟩:∃ k,n=k+1:=⟨n - 1,by omega⟩
  have hx1:l[j1]?=some l[j1]:=List.getElem?_eq_getElem hjl
  have ci:=aR G1 v l (Ps.Toks.mono hle hv) hn hx1 Ps.wOr
  have hnext:=hl.next hx1 (s:=Ps.wOr)
  unfold Ps.more at hres
  cases hq:Ps.is (l.map Lx.b) j1 Ps.wOr with
  | false =>
   rw [hq] at ci
   rw [hq,if_neg (by decide)] at hres
   unfold Ps.wOr at ci
   by_cases h1:ps.length=1
   ·have e:=hone h1
    subst e
    repeat' first|(intro K hK;(with_reducible refine gC ?_);refine cS [0] ci ?_)|(refine sxZ ?_;try clear hK K)|refine sxW ?_ ?_<;>intro _|(intro K hK _;conv=>whnf)
    all_goals exact ⟨x,j1,G1,u,true,hle,hij,hjl,by rw [hres];rfl,rfl,.inl ⟨hrow,MemFits.pre 1 rfl⟩⟩
   ·have hwn:=Ps.wrap_not (f:=fun xs=>Pd.T.mk 6 0 0 xs) (xs:=ps.map (·.1)) (j:=j1) (by rw [List.length_map];exact h1)
    repeat' first|(intro K hK;(with_reducible refine gC ?_);refine cS [0] ci ?_)|(refine sxZ ?_;try clear hK K)|refine sxW ?_ ?_<;>intro _|(intro K hK _;conv=>whnf)
    all_goals exact ⟨Pd.T.mk 6 0 0 (ps.map (·.1)),j1,G1,w,true,hle,hij,hjl,by rw [hres];exact hwn,rfl,.inr ⟨ps,rfl,hall,MemFits.pick [0,3] (by decide) rfl⟩⟩
  | true =>
   rw [hq] at ci
   rw [hq,if_pos rfl] at hres
   unfold Ps.wOr at ci
   have c1:=hg (j1+1) (by omega) (hnext hq) G1 (Ps.Toks.mono hle hv)
   repeat' first|(intro K hK;(with_reducible refine gC ?_);first|refine cS [0] ci ?_|(refine cN [0] c1 ?_;rintro _ _ ⟨x2,u2,j2,G2,ok2,k1,k2,k3,k4,k5,rfl,rfl⟩;refine cR ?_))|(refine sxZ ?_;try clear hK K)|refine sxW ?_ ?_<;>intro _|(intro K hK _;conv=>whnf)
   rename_i b3 w2
   have hpn:=Pd.psC_next ps (x2,u2)
   have hpl2:(ps++[(x2,u2)]).length=ps.length+1:=by rw [List.length_append];rfl
   have hres2:res=(if ok2=true then Ps.more (l.map Lx.b) Ps.wOr sp n ((ps++[(x2,u2)]).map (·.1)) j2 else .bad j2):=by
    rw [hres,k5,List.map_append]
    cases ok2<;>rfl
   refine aB (G2,w2,ps++[(x2,u2)],(x2,u2),j2,ok2,n) ⟨hle.trans k1,fun p hp=>?_,k2,Nat.le_trans hij (Nat.le_trans (Nat.le_succ _) k3),k4,hres2,by dsimp only;omega,by dsimp only;rw [hpl2];omega,by dsimp only;rw [hpl2];omega,fun h=>by dsimp only at h;rw [hpl2] at h;omega⟩ (by show (if ok2=true then l.length - j2 else 0)<l.length - j1;split<;>omega) ?_ ?_
   ·rcases List.mem_append.1 hp with hp | hp
    ·exact Pd.Row.mono k1 (hall p hp)
    ·rw [List.mem_singleton.1 hp];exact k2
   ·dsimp only
    rw [hpl2]
    exact aC
   ·dsimp only
    rw [hpn,hpl2]
    exact MemFits.pre 4 rfl
theorem j7 (v:Value) (l:List Lx.T) (hl:Ps.Good l) (sp:Nat→Ps.R Po.T) (i0:Nat) (hi0:i0<l.length) (hg:∀ i,i0≤i→i<l.length→Ps.D27 v l 64 (sp i) i):Ps.D27 v l 35 (Ps.wrap (fun xs=>Po.T.mk 3 Ps.none26 0 0 xs) (Ps.chain (l.map Lx.b) Ps.wSemi sp i0)) i0:=by
 intro F hv
 refine NCall.know (K:=fun r m=>∃ (y:Po.T) (j:Nat) (G:Heap) (pw w:Value) (ok:Bool),F.le G∧i0≤j∧j<l.length∧Ps.wrap (fun xs=>Po.T.mk 3 Ps.none26 0 0 xs) (Ps.chain (l.map Lx.b) Ps.wSemi sp i0)=(if ok=true then .ok y j else .bad j)∧r.den=(AV.tup [.agg (Po.cs y pw w),.int .i64 j,.bool ok]).den∧((Po.At G y pw w∧MemFits m [hpB G])∨(∃ ps:List (Po.L),y.l=ps.map (·.x)∧Pd.Row G pw y.p.l∧(∀ p∈ps,Po.At G p.x p.pu p.u)∧MemFits m [hpB G,⟨addrOf w,Po.psC ps,.row w 33 8 ps.length⟩]))) ?_ fun r m' hq ⟨w0,hw0⟩=>?_
 rotate_left
 ·obtain ⟨y,j,G,pw,w,ok,h1,h2,h3,h4,h5,h6⟩:=hq
  rcases h6 with ⟨h6,h7⟩ | ⟨ps,e,hpw,h6,h7⟩
  ·exact ⟨_,_,h5.symm,h7,y,pw,w,j,G,ok,h1,h6,h2,h3,h4,rfl,rfl⟩
  ·have hok:=((h7 w0 hw0).1.row (List.mem_cons_of_mem _ (List.mem_cons_self ..))).1
   have hrow:=aJ (F:=G) (sz:=8) (enc:=Po.psV) hok (Po.psC_den ps) (fun x _=>rfl)
   have hr:=Po.row_of hrow fun p hp=>Po.At.mono addF.old (h6 p hp)
   rw [← e] at hr
   exact ⟨_,_,h5.symm,h7.trans (MemFits.freeze (m:=[])),y,pw,w,j,_,ok,h1.trans addF.old,⟨Pd.Row.mono addF.old hpw,hr⟩,h2,h3,h4,rfl,rfl⟩
 have c0:=hg i0 (Nat.le_refl _) hi0 F hv
 have hn:=hl.few
 have hspec:Ps.chain (l.map Lx.b) Ps.wSemi sp i0=match sp i0 with
  | .ok x j=>Ps.more (l.map Lx.b) Ps.wSemi sp ((l.map Lx.b).length+1 - j) [x] j
  | .bad j=>.bad j:=by unfold Ps.chain;cases sp i0<;>rfl
 have hlen:(l.map Lx.b).length=l.length:=List.length_map ..
 rw [hlen] at hspec
 generalize Ps.chain (l.map Lx.b) Ps.wSemi sp i0=res at *
 refine aA Tryz.func35 rfl (by decide) ?_
 repeat' first|(intro K hK;(with_reducible refine gC ?_);(refine cN [0] c0 ?_;rintro _ _ ⟨x,pu,u,j,G,ok,h1,h2,h3,h4,h5,rfl,rfl⟩;refine cR ?_))|(refine sxZ ?_;try clear hK K)|refine sxW ?_ ?_<;>intro _|(intro K hK _;conv=>whnf)
 rename_i b0 b1 b2
 have hinit:res=(if ok=true then Ps.more (l.map Lx.b) Ps.wSemi sp (l.length+1 - j) [x] j else .bad j):=by
  rw [hspec,h5]
  cases ok<;>rfl
 clear hspec h5
 refine aD (α:=Heap × Value × List (Po.L) × (Po.L) × Nat × Bool × Nat) (fun (G,w,ps,(⟨x,pu,u⟩:Po.L),j,ok,n)=>F.le G∧(∀ p∈ps,Po.At G p.x p.pu p.u)∧Po.At G x pu u∧i0≤j∧j<l.length∧res=(if ok=true then Ps.more (l.map Lx.b) Ps.wSemi sp n (ps.map (·.x)) j else .bad j)∧l.length - j<n∧1≤ps.length∧ps.length≤j+1∧(ps.length=1→ps=[⟨x,pu,u⟩]))
  (fun (G,w,ps,(⟨x,pu,u⟩:Po.L),j,ok,n)=>[.k,.k,.k,.k,.k,.k,.k,.k,.set (.int .i64 j),.set (.bool ok),.set (.sl 3 w ps.length),.k,.k,.k,.k,.k,.k,.k,.k,.k,.d,.d,.d,.d,.d,.d,.d,.d,.d,.d,.d,.d,.d,.d,.d,.d,.d,.d,.k,.k,.k,.k,.k,.k,.k,.k,.k,.k]) (fun (G,w,ps,(⟨x,pu,u⟩:Po.L),j,ok,n)=>[.set (hpB G),.k,.set ⟨⟨b1,0,none⟩,Po.cs x pu u,.var 33⟩,.set ⟨addrOf w,Po.psC ps,.row w 33 8 ps.length⟩]) (fun (G,w,ps,(⟨x,pu,u⟩:Po.L),j,ok,n)=>if ok=true then l.length - j else 0)
  (G,.slice (some ⟨b2,0,none⟩) 1 1,[⟨x,pu,u⟩],⟨x,pu,u⟩,j,ok,l.length+1 - j) ⟨h1,fun p hp=>by rw [List.mem_singleton.1 hp];exact h2,h2,h3,h4,hinit,by omega,Nat.le_refl _,by simp,fun _=>rfl⟩ ?_ ?_ ?_
 ·exact aC
 ·exact MemFits.eq rfl
 (intro ⟨G1,w,ps,⟨x,pu,u⟩,j1,ok1,n⟩ ⟨hle,hall,hrow,hij,hjl,hres,hnl,hp1,hpl,hone⟩;intro K hK;(conv=>whnf);refine hK _ _ ?_;clear hK K)
 dsimp only at hle hall hrow hij hjl hres hnl hp1 hpl hone ⊢
 have hpc:=Po.psC_len ps
 cases ok1 with
 | false =>
  rw [if_neg (by decide)] at hres
  by_cases h1:ps.length=1
  ·repeat' first|(refine sxZ ?_;try clear hK K)|refine sxW ?_ ?_<;>intro _|(intro K hK _;conv=>whnf)
   all_goals exact ⟨x,j1,G1,pu,u,false,hle,hij,hjl,by rw [hres];rfl,rfl,.inl ⟨hrow,MemFits.pre 1 rfl⟩⟩
  ·repeat' first|(refine sxZ ?_;try clear hK K)|refine sxW ?_ ?_<;>intro _|(intro K hK _;conv=>whnf)
   all_goals exact ⟨Po.T.mk 3 Ps.none26 0 0 (ps.map (·.x)),j1,G1,.slice none 0 0,w,false,hle,hij,hjl,by rw [hres];rfl,rfl,.inr ⟨ps,rfl,aH.nil,hall,MemFits.pick [0,3] (by decide) rfl⟩⟩
 | true =>
  rw [if_pos rfl] at hres
  obtain ⟨n,rfl⟩:∃ k,n=k+1:=⟨n - 1,by omega⟩
  have hx1:l[j1]?=some l[j1]:=List.getElem?_eq_getElem hjl
  have ci:=aR G1 v l (Ps.Toks.mono hle hv) hn hx1 Ps.wSemi
  have hnext:=hl.next hx1 (s:=Ps.wSemi)
  unfold Ps.more at hres
  cases hq:Ps.is (l.map Lx.b) j1 Ps.wSemi with
  | false =>
   rw [hq] at ci
   rw [hq,if_neg (by decide)] at hres
   unfold Ps.wSemi at ci
   by_cases h1:ps.length=1
   ·have e:=hone h1
    subst e
    repeat' first|(intro K hK;(with_reducible refine gC ?_);refine cS [0] ci ?_)|(refine sxZ ?_;try clear hK K)|refine sxW ?_ ?_<;>intro _|(intro K hK _;conv=>whnf)
    all_goals exact ⟨x,j1,G1,pu,u,true,hle,hij,hjl,by rw [hres];rfl,rfl,.inl ⟨hrow,MemFits.pre 1 rfl⟩⟩
   ·have hwn:=Ps.wrap_not (f:=fun xs=>Po.T.mk 3 Ps.none26 0 0 xs) (xs:=ps.map (·.x)) (j:=j1) (by rw [List.length_map];exact h1)
    repeat' first|(intro K hK;(with_reducible refine gC ?_);refine cS [0] ci ?_)|(refine sxZ ?_;try clear hK K)|refine sxW ?_ ?_<;>intro _|(intro K hK _;conv=>whnf)
    all_goals exact ⟨Po.T.mk 3 Ps.none26 0 0 (ps.map (·.x)),j1,G1,.slice none 0 0,w,true,hle,hij,hjl,by rw [hres];exact hwn,rfl,.inr ⟨ps,rfl,aH.nil,hall,MemFits.pick [0,3] (by decide) rfl⟩⟩
  | true =>
   rw [hq] at ci
   rw [hq,if_pos rfl] at hres
   unfold Ps.wSemi at ci
   have c1:=hg (j1+1) (by omega) (hnext hq) G1 (Ps.Toks.mono hle hv)
   repeat' first|(intro K hK;(with_reducible refine gC ?_);first|refine cS [0] ci ?_|(refine cN [0] c1 ?_;rintro _ _ ⟨x2,pu2,u2,j2,G2,ok2,k1,k2,k3,k4,k5,rfl,rfl⟩;refine cR ?_))|(refine sxZ ?_;try clear hK K)|refine sxW ?_ ?_<;>intro _|(intro K hK _;conv=>whnf)
   rename_i b3 w2
   have hpn:=Po.psC_next ps (⟨x2,pu2,u2⟩:Po.L)
   have hpl2:(ps++[(⟨x2,pu2,u2⟩:Po.L)]).length=ps.length+1:=by rw [List.length_append];rfl
   have hres2:res=(if ok2=true then Ps.more (l.map Lx.b) Ps.wSemi sp n ((ps++[(⟨x2,pu2,u2⟩:Po.L)]).map (·.x)) j2 else .bad j2):=by
    rw [hres,k5,List.map_append]
    cases ok2<;>rfl
   refine aB (G2,w2,ps++[⟨x2,pu2,u2⟩],⟨x2,pu2,u2⟩,j2,ok2,n) ⟨hle.trans k1,fun p hp=>?_,k2,Nat.le_trans hij (Nat.le_trans (Nat.le_succ _) k3),k4,hres2,by dsimp only;omega,by dsimp only;rw [hpl2];omega,by dsimp only;rw [hpl2];omega,fun h=>by dsimp only at h;rw [hpl2] at h;omega⟩ (by show (if ok2=true then l.length - j2 else 0)<l.length - j1;split<;>omega) ?_ ?_
   ·rcases List.mem_append.1 hp with hp | hp
    ·exact Po.At.mono k1 (hall p hp)
    ·rw [List.mem_singleton.1 hp];exact k2
   ·dsimp only
    rw [hpl2]
    exact aC
   ·dsimp only
    rw [hpn,hpl2]
    exact MemFits.pre 4 rfl
theorem iY (v:Value) (l:List Lx.T) (hl:Ps.Good l) (sp:Nat→Ps.R Po.T) (i0:Nat) (hi0:i0<l.length) (hg:∀ i,i0≤i→i<l.length→Ps.D27 v l 35 (sp i) i):Ps.D27 v l 15 (Ps.wrap (fun xs=>Po.T.mk 4 Ps.none26 0 0 xs) (Ps.chain (l.map Lx.b) Ps.wBar sp i0)) i0:=by
 intro F hv
 refine NCall.know (K:=fun r m=>∃ (y:Po.T) (j:Nat) (G:Heap) (pw w:Value) (ok:Bool),F.le G∧i0≤j∧j<l.length∧Ps.wrap (fun xs=>Po.T.mk 4 Ps.none26 0 0 xs) (Ps.chain (l.map Lx.b) Ps.wBar sp i0)=(if ok=true then .ok y j else .bad j)∧r.den=(AV.tup [.agg (Po.cs y pw w),.int .i64 j,.bool ok]).den∧((Po.At G y pw w∧MemFits m [hpB G])∨(∃ ps:List (Po.L),y.l=ps.map (·.x)∧Pd.Row G pw y.p.l∧(∀ p∈ps,Po.At G p.x p.pu p.u)∧MemFits m [hpB G,⟨addrOf w,Po.psC ps,.row w 33 8 ps.length⟩]))) ?_ fun r m' hq ⟨w0,hw0⟩=>?_
 rotate_left
 ·obtain ⟨y,j,G,pw,w,ok,h1,h2,h3,h4,h5,h6⟩:=hq
  rcases h6 with ⟨h6,h7⟩ | ⟨ps,e,hpw,h6,h7⟩
  ·exact ⟨_,_,h5.symm,h7,y,pw,w,j,G,ok,h1,h6,h2,h3,h4,rfl,rfl⟩
  ·have hok:=((h7 w0 hw0).1.row (List.mem_cons_of_mem _ (List.mem_cons_self ..))).1
   have hrow:=aJ (F:=G) (sz:=8) (enc:=Po.psV) hok (Po.psC_den ps) (fun x _=>rfl)
   have hr:=Po.row_of hrow fun p hp=>Po.At.mono addF.old (h6 p hp)
   rw [← e] at hr
   exact ⟨_,_,h5.symm,h7.trans (MemFits.freeze (m:=[])),y,pw,w,j,_,ok,h1.trans addF.old,⟨Pd.Row.mono addF.old hpw,hr⟩,h2,h3,h4,rfl,rfl⟩
 have c0:=hg i0 (Nat.le_refl _) hi0 F hv
 have hn:=hl.few
 have hspec:Ps.chain (l.map Lx.b) Ps.wBar sp i0=match sp i0 with
  | .ok x j=>Ps.more (l.map Lx.b) Ps.wBar sp ((l.map Lx.b).length+1 - j) [x] j
  | .bad j=>.bad j:=by unfold Ps.chain;cases sp i0<;>rfl
 have hlen:(l.map Lx.b).length=l.length:=List.length_map ..
 rw [hlen] at hspec
 generalize Ps.chain (l.map Lx.b) Ps.wBar sp i0=res at *
 refine aA Tryz.func15 rfl (by decide) ?_
 repeat' first|(intro K hK;(with_reducible refine gC ?_);(refine cN [0] c0 ?_;rintro _ _ ⟨x,pu,u,j,G,ok,h1,h2,h3,h4,h5,rfl,rfl⟩;refine cR ?_))|(refine sxZ ?_;try clear hK K)|refine sxW ?_ ?_<;>intro _|(intro K hK _;conv=>whnf)
 rename_i b0 b1 b2
 have hinit:res=(if ok=true then Ps.more (l.map Lx.b) Ps.wBar sp (l.length+1 - j) [x] j else .bad j):=by
  rw [hspec,h5]
  cases ok<;>rfl
 clear hspec h5
 refine aD (α:=Heap × Value × List (Po.L) × (Po.L) × Nat × Bool × Nat) (fun (G,w,ps,(⟨x,pu,u⟩:Po.L),j,ok,n)=>F.le G∧(∀ p∈ps,Po.At G p.x p.pu p.u)∧Po.At G x pu u∧i0≤j∧j<l.length∧res=(if ok=true then Ps.more (l.map Lx.b) Ps.wBar sp n (ps.map (·.x)) j else .bad j)∧l.length - j<n∧1≤ps.length∧ps.length≤j+1∧(ps.length=1→ps=[⟨x,pu,u⟩]))
  (fun (G,w,ps,(⟨x,pu,u⟩:Po.L),j,ok,n)=>[.k,.k,.k,.k,.k,.k,.k,.k,.set (.int .i64 j),.set (.bool ok),.set (.sl 3 w ps.length),.k,.k,.k,.k,.k,.k,.k,.k,.k,.d,.d,.d,.d,.d,.d,.d,.d,.d,.d,.d,.d,.d,.d,.d,.d,.d,.d,.k,.k,.k,.k,.k,.k,.k,.k,.k,.k]) (fun (G,w,ps,(⟨x,pu,u⟩:Po.L),j,ok,n)=>[.set (hpB G),.k,.set ⟨⟨b1,0,none⟩,Po.cs x pu u,.var 33⟩,.set ⟨addrOf w,Po.psC ps,.row w 33 8 ps.length⟩]) (fun (G,w,ps,(⟨x,pu,u⟩:Po.L),j,ok,n)=>if ok=true then l.length - j else 0)
  (G,.slice (some ⟨b2,0,none⟩) 1 1,[⟨x,pu,u⟩],⟨x,pu,u⟩,j,ok,l.length+1 - j) ⟨h1,fun p hp=>by rw [List.mem_singleton.1 hp];exact h2,h2,h3,h4,hinit,by omega,Nat.le_refl _,by simp,fun _=>rfl⟩ ?_ ?_ ?_
 ·exact aC
 ·exact MemFits.eq rfl
 (intro ⟨G1,w,ps,⟨x,pu,u⟩,j1,ok1,n⟩ ⟨hle,hall,hrow,hij,hjl,hres,hnl,hp1,hpl,hone⟩;intro K hK;(conv=>whnf);refine hK _ _ ?_;clear hK K)
 dsimp only at hle hall hrow hij hjl hres hnl hp1 hpl hone ⊢
 have hpc:=Po.psC_len ps
 cases ok1 with
 | false =>
  rw [if_neg (by decide)] at hres
  by_cases h1:ps.length=1
  ·repeat' first|(refine sxZ ?_;try clear hK K)|refine sxW ?_ ?_<;>intro _|(intro K hK _;conv=>whnf)
   all_goals exact ⟨x,j1,G1,pu,u,false,hle,hij,hjl,by rw [hres];rfl,rfl,.inl ⟨hrow,MemFits.pre 1 rfl⟩⟩
  ·repeat' first|(refine sxZ ?_;try clear hK K)|refine sxW ?_ ?_<;>intro _|(intro K hK _;conv=>whnf)
   all_goals exact ⟨Po.T.mk 4 Ps.none26 0 0 (ps.map (·.x)),j1,G1,.slice none 0 0,w,false,hle,hij,hjl,by rw [hres];rfl,rfl,.inr ⟨ps,rfl,aH.nil,hall,MemFits.pick [0,3] (by decide) rfl⟩⟩
 | true =>
  rw [if_pos rfl] at hres
  obtain ⟨n,rfl⟩:∃ k,n=k+1:=⟨n - 1,by omega⟩
  have hx1:l[j1]?=some l[j1]:=List.getElem?_eq_getElem hjl
  have ci:=aR G1 v l (Ps.Toks.mono hle hv) hn hx1 Ps.wBar
  have hnext:=hl.next hx1 (s:=Ps.wBar)
  unfold Ps.more at hres
  cases hq:Ps.is (l.map Lx.b) j1 Ps.wBar with
  | false =>
   rw [hq] at ci
   rw [hq,if_neg (by decide)] at hres
   unfold Ps.wBar at ci
   by_cases h1:ps.length=1
   ·have e:=hone h1
    subst e
    repeat' first|(intro K hK;(with_reducible refine gC ?_);refine cS [0] ci ?_)|(refine sxZ ?_;try clear hK K)|refine sxW ?_ ?_<;>intro _|(intro K hK _;conv=>whnf)
    all_goals exact ⟨x,j1,G1,pu,u,true,hle,hij,hjl,by rw [hres];rfl,rfl,.inl ⟨hrow,MemFits.pre 1 rfl⟩⟩
   ·have hwn:=Ps.wrap_not (f:=fun xs=>Po.T.mk 4 Ps.none26 0 0 xs) (xs:=ps.map (·.x)) (j:=j1) (by rw [List.length_map];exact h1)
    repeat' first|(intro K hK;(with_reducible refine gC ?_);refine cS [0] ci ?_)|(refine sxZ ?_;try clear hK K)|refine sxW ?_ ?_<;>intro _|(intro K hK _;conv=>whnf)
    all_goals exact ⟨Po.T.mk 4 Ps.none26 0 0 (ps.map (·.x)),j1,G1,.slice none 0 0,w,true,hle,hij,hjl,by rw [hres];exact hwn,rfl,.inr ⟨ps,rfl,aH.nil,hall,MemFits.pick [0,3] (by decide) rfl⟩⟩
  | true =>
   rw [hq] at ci
   rw [hq,if_pos rfl] at hres
   unfold Ps.wBar at ci
   have c1:=hg (j1+1) (by omega) (hnext hq) G1 (Ps.Toks.mono hle hv)
   repeat' first|(intro K hK;(with_reducible refine gC ?_);first|refine cS [0] ci ?_|(refine cN [0] c1 ?_;rintro _ _ ⟨x2,pu2,u2,j2,G2,ok2,k1,k2,k3,k4,k5,rfl,rfl⟩;refine cR ?_))|(refine sxZ ?_;try clear hK K)|refine sxW ?_ ?_<;>intro _|(intro K hK _;conv=>whnf)
   rename_i b3 w2
   have hpn:=Po.psC_next ps (⟨x2,pu2,u2⟩:Po.L)
   have hpl2:(ps++[(⟨x2,pu2,u2⟩:Po.L)]).length=ps.length+1:=by rw [List.length_append];rfl
   have hres2:res=(if ok2=true then Ps.more (l.map Lx.b) Ps.wBar sp n ((ps++[(⟨x2,pu2,u2⟩:Po.L)]).map (·.x)) j2 else .bad j2):=by
    rw [hres,k5,List.map_append]
    cases ok2<;>rfl
   refine aB (G2,w2,ps++[⟨x2,pu2,u2⟩],⟨x2,pu2,u2⟩,j2,ok2,n) ⟨hle.trans k1,fun p hp=>?_,k2,Nat.le_trans hij (Nat.le_trans (Nat.le_succ _) k3),k4,hres2,by dsimp only;omega,by dsimp only;rw [hpl2];omega,by dsimp only;rw [hpl2];omega,fun h=>by dsimp only at h;rw [hpl2] at h;omega⟩ (by show (if ok2=true then l.length - j2 else 0)<l.length - j1;split<;>omega) ?_ ?_
   ·rcases List.mem_append.1 hp with hp | hp
    ·exact Po.At.mono k1 (hall p hp)
    ·rw [List.mem_singleton.1 hp];exact k2
   ·dsimp only
    rw [hpl2]
    exact aC
   ·dsimp only
    rw [hpn,hpl2]
    exact MemFits.pre 4 rfl
end Go.Proofs.YtmehinfgdcmmjaaGreat
