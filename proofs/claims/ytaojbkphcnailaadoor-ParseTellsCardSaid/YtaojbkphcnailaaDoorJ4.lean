import Derived.Shelf.Strings.Builder1
import Derived.Shelf.Strings.Builder2
import Derived.Shelf.Strings.OnBuilder
import Derived.Shelf.Small.Strs
import Derived.Shelf.Strings.BuilderF
import Derived.Shelf.Strconv.Itoa0
import Derived.Shelf.Strconv.Itoa1
import Derived.Shelf.LaysM
import Derived.Shelf.Strconv.Itoa2
import Derived.Shelf.Strconv.Itoa3
import Derived.Shelf.Strings.Search1
import Derived.Shelf.Slices.Turned
import Derived.Test.YtaojbkphcnailaaDoorProg
import Derived.Test.YtaojbkphcnailaaDoorJ3
namespace Go.Proofs
open Go.Shelf
def Tryd.lays156_ren:Go.Shelf.Ren:=⟨fun | 156=>43 | 165=>74 | 166=>75 | 169=>76 | 240=>92 | 241=>93 | 276=>115 | 277=>116 | n=>n,fun | 31=>78 | 9=>9 | 3=>3 | 4=>4 | 0=>0 | 20=>20 | 72=>106 | 76=>110 | 70=>103 | 37=>104 | 75=>109 | 127=>123 | 164=>140 | 5=>5 | 80=>112 | n=>n,fun | n=>n⟩
theorem Tryd.lays156:Go.Proofs.Lays.n156 Tryd.prog Tryd.lays156_ren:={
  mixed:=by kernel_rfl
  f156:=Tryd.func43.trans (congrArg some (by kernel_rfl))
  f165:=Tryd.func74.trans (congrArg some (by kernel_rfl))
  f166:=Tryd.func75.trans (congrArg some (by kernel_rfl))
  f169:=Tryd.func76.trans (congrArg some (by kernel_rfl))
  f240:=Tryd.func92.trans (congrArg some (by kernel_rfl))
  f241:=Tryd.func93.trans (congrArg some (by kernel_rfl))
  f276:=Tryd.func115.trans (congrArg some (by kernel_rfl))
  f277:=Tryd.func116.trans (congrArg some (by kernel_rfl))
  t0:=Tryd.underlying0
  a0:=Tryd.isAgg0
  z0:=Tryd.sizeOf0
  v0:=Tryd.zeroValue0
  t3:=Tryd.underlying3
  a3:=Tryd.isAgg3
  z3:=Tryd.sizeOf3
  v3:=Tryd.zeroValue3
  t4:=Tryd.underlying4
  a4:=Tryd.isAgg4
  z4:=Tryd.sizeOf4
  v4:=Tryd.zeroValue4
  t9:=Tryd.underlying9
  a9:=Tryd.isAgg9
  z9:=Tryd.sizeOf9
  v9:=Tryd.zeroValue9
  t20:=Tryd.underlying20
  a20:=Tryd.isAgg20
  z20:=Tryd.sizeOf20
  v20:=Tryd.zeroValue20
  t31:=Tryd.underlying78
  a31:=Tryd.isAgg78
  z31:=Tryd.sizeOf78
  v31:=Tryd.zeroValue78
  t37:=Tryd.underlying104
  a37:=Tryd.isAgg104
  z37:=Tryd.sizeOf104
  v37:=Tryd.zeroValue104
  t70:=Tryd.underlying103
  a70:=Tryd.isAgg103
  z70:=Tryd.sizeOf103
  v70:=Tryd.zeroValue103
  t72:=Tryd.underlying106
  a72:=Tryd.isAgg106
  z72:=Tryd.sizeOf106
  v72:=Tryd.zeroValue106
  t75:=Tryd.underlying109
  a75:=Tryd.isAgg109
  z75:=Tryd.sizeOf109
  v75:=Tryd.zeroValue109
  t76:=Tryd.underlying110
  a76:=Tryd.isAgg110
  z76:=Tryd.sizeOf110
  v76:=Tryd.zeroValue110
  t127:=Tryd.underlying123
  a127:=Tryd.isAgg123
  z127:=Tryd.sizeOf123
  v127:=Tryd.zeroValue123
  t164:=Tryd.underlying140
  a164:=Tryd.isAgg140
  z164:=Tryd.sizeOf140
  v164:=Tryd.zeroValue140 }
theorem Tryd.Builder_Extra_156:Builder.Extra Tryd.prog Tryd.lays156_ren:={
  sizeBuilder:=by kernel_rfl
  liesBuilder:=by kernel_rfl
  t5:=Tryd.underlying5
  a5:=Tryd.isAgg5
  z5:=Tryd.sizeOf5
  v5:=Tryd.zeroValue5
  infoByte:=by kernel_rfl
  cellsByte:=by kernel_rfl
  sizeByte:=by kernel_rfl
  neB5:=by decide }
open Go.RowKit in
theorem Tryd.strings_Join_none (a:Option Addr) (c:Nat) (sep:ByteArray) (w:World) :
    Calls Tryd.prog 43 #[.slice a 0 c,.string sep] w fun e w'=>e = .returned (.string ⟨#[]⟩)∧w'=w:=Any.strings_Join_none Tryd.lays156 Tryd.Builder_Extra_156 a c sep w
open Go.RowKit in
theorem Tryd.strings_Join (bk o c:Nat) (xs:List ByteArray) (sep:ByteArray) (w:World) (hcells:∀ (j:Nat) x,xs[j]?=some x→w.cell? ⟨bk,o+j,none⟩=some (.string x)) (hbk:bk<w.heap.size) (hN:xs.length≤140737488355328) (hcap:xs.length≤c) (hlen:(Lib.join (xs.map (·.data.toList)) sep.data.toList).length≤140737488355328) :
    Calls Tryd.prog 43 #[.slice (some ⟨bk,o,none⟩) xs.length c,.string sep] w fun e w'=>e = .returned (.string ⟨(Lib.join (xs.map (·.data.toList)) sep.data.toList).toArray⟩)∧Below w.heap.size w w':=Any.strings_Join Tryd.lays156 Tryd.Builder_Extra_156 bk o c xs sep w hcells hbk hN hcap hlen
def Tryd.lays137_ren:Go.Shelf.Ren:=⟨fun | 137=>105 | 217=>121 | 266=>133 | n=>n,fun | 9=>9 | 5=>5 | 3=>3 | n=>n,fun | n=>n⟩
theorem Tryd.lays137:Go.Proofs.Lays.n137 Tryd.prog Tryd.lays137_ren:={
  mixed:=by kernel_rfl
  f137:=Tryd.func105.trans (congrArg some (by kernel_rfl))
  f217:=Tryd.func121.trans (congrArg some (by kernel_rfl))
  f266:=Tryd.func133.trans (congrArg some (by kernel_rfl))
  t3:=Tryd.underlying3
  a3:=Tryd.isAgg3
  z3:=Tryd.sizeOf3
  v3:=Tryd.zeroValue3
  t5:=Tryd.underlying5
  a5:=Tryd.isAgg5
  z5:=Tryd.sizeOf5
  v5:=Tryd.zeroValue5
  t9:=Tryd.underlying9
  a9:=Tryd.isAgg9
  z9:=Tryd.sizeOf9
  v9:=Tryd.zeroValue9 }
open Go.RowKit in
theorem Tryd.strings_IndexByte (s:ByteArray) (c:Int) (w:World) :
    Calls Tryd.prog 105 #[.string s,.int .u8 c] w fun e w'=>e = .returned (.int .i64 (Lib.indexByte s.data.toList c.toNat.toUInt8))∧w'=w:=Any.strings_IndexByte Tryd.lays137 s c w
def Tryd.laysM171_ren:Go.Shelf.Ren:=⟨fun | 171=>42 | 243=>73 | 246=>91 | 283=>111 | 284=>112 | 285=>113 | 286=>114 | 129=>125 | 317=>124 | 318=>126 | 319=>127 | 320=>128 | 337=>134 | 338=>135 | n=>n,fun | 3=>3 | 9=>9 | 2=>2 | 4=>4 | 171=>134 | 0=>0 | 53=>135 | 37=>104 | 5=>5 | 173=>138 | 212=>146 | 51=>147 | 20=>20 | 213=>148 | 46=>150 | 232=>155 | 233=>156 | n=>n,fun | 17=>0 | 18=>2 | 19=>3 | n=>n⟩
theorem Tryd.laysM171:Go.Proofs.LaysM.n171 Tryd.prog Tryd.laysM171_ren:={
  mixed:=by kernel_rfl
  f129:=Tryd.func125.trans (congrArg some (by kernel_rfl))
  f171:=Tryd.func42.trans (congrArg some (by kernel_rfl))
  f243:=Tryd.func73.trans (congrArg some (by kernel_rfl))
  f246:=Tryd.func91.trans (congrArg some (by kernel_rfl))
  f283:=Tryd.func111.trans (congrArg some (by kernel_rfl))
  f284:=Tryd.func112.trans (congrArg some (by kernel_rfl))
  f285:=Tryd.func113.trans (congrArg some (by kernel_rfl))
  f286:=Tryd.func114.trans (congrArg some (by kernel_rfl))
  f317:=Tryd.func124.trans (congrArg some (by kernel_rfl))
  f318:=Tryd.func126.trans (congrArg some (by kernel_rfl))
  f319:=Tryd.func127.trans (congrArg some (by kernel_rfl))
  f320:=Tryd.func128.trans (congrArg some (by kernel_rfl))
  f337:=Tryd.func134.trans (congrArg some (by kernel_rfl))
  f338:=Tryd.func135.trans (congrArg some (by kernel_rfl))
  t0:=Tryd.underlying0
  a0:=Tryd.isAgg0
  z0:=Tryd.sizeOf0
  v0:=Tryd.zeroValue0
  t2:=Tryd.underlying2
  a2:=Tryd.isAgg2
  z2:=Tryd.sizeOf2
  v2:=Tryd.zeroValue2
  t3:=Tryd.underlying3
  a3:=Tryd.isAgg3
  z3:=Tryd.sizeOf3
  v3:=Tryd.zeroValue3
  t4:=Tryd.underlying4
  a4:=Tryd.isAgg4
  z4:=Tryd.sizeOf4
  v4:=Tryd.zeroValue4
  t5:=Tryd.underlying5
  a5:=Tryd.isAgg5
  z5:=Tryd.sizeOf5
  v5:=Tryd.zeroValue5
  t9:=Tryd.underlying9
  a9:=Tryd.isAgg9
  z9:=Tryd.sizeOf9
  v9:=Tryd.zeroValue9
  t20:=Tryd.underlying20
  a20:=Tryd.isAgg20
  z20:=Tryd.sizeOf20
  v20:=Tryd.zeroValue20
  t37:=Tryd.underlying104
  a37:=Tryd.isAgg104
  z37:=Tryd.sizeOf104
  v37:=Tryd.zeroValue104
  t46:=Tryd.underlying150
  a46:=Tryd.isAgg150
  z46:=Tryd.sizeOf150
  v46:=Tryd.zeroValue150
  t51:=Tryd.underlying147
  a51:=Tryd.isAgg147
  z51:=Tryd.sizeOf147
  v51:=Tryd.zeroValue147
  t53:=Tryd.underlying135
  a53:=Tryd.isAgg135
  z53:=Tryd.sizeOf135
  v53:=Tryd.zeroValue135
  t171:=Tryd.underlying134
  a171:=Tryd.isAgg134
  z171:=Tryd.sizeOf134
  v171:=Tryd.zeroValue134
  t173:=Tryd.underlying138
  a173:=Tryd.isAgg138
  z173:=Tryd.sizeOf138
  v173:=Tryd.zeroValue138
  t212:=Tryd.underlying146
  a212:=Tryd.isAgg146
  z212:=Tryd.sizeOf146
  v212:=Tryd.zeroValue146
  t213:=Tryd.underlying148
  a213:=Tryd.isAgg148
  z213:=Tryd.sizeOf148
  t232:=Tryd.underlying155
  a232:=Tryd.isAgg155
  z232:=Tryd.sizeOf155
  v232:=Tryd.zeroValue155
  t233:=Tryd.underlying156
  a233:=Tryd.isAgg156
  z233:=Tryd.sizeOf156
  v233:=Tryd.zeroValue156
  g17:=by kernel_rfl
  g18:=by kernel_rfl
  g19:=by kernel_rfl
  i0:=by kernel_rfl
  i2:=by kernel_rfl
  i3:=by kernel_rfl
  i4:=by kernel_rfl
  i5:=by kernel_rfl
  i9:=by kernel_rfl
  i20:=by kernel_rfl
  i37:=by kernel_rfl
  i46:=by kernel_rfl
  i51:=by kernel_rfl
  i53:=by kernel_rfl
  i171:=by kernel_rfl
  i173:=by kernel_rfl
  i212:=by kernel_rfl
  i232:=by kernel_rfl
  i233:=by kernel_rfl
  m17:=by kernel_rfl
  m18:=by kernel_rfl
  m19:=by kernel_rfl }
open Go.RowKit Go.Sort Go.Lib in
theorem Tryd.strconv_Itoa (n : Int) (h0 : -9223372036854775808 ≤ n) (h1 : n ≤ 9223372036854775807) (w : World) (htab : Lib.TabIs Tryd.prog w "internal/strconv.uint64pow10" .u64 Lib.pow10Tab) :
    Calls Tryd.prog 42 #[.int .i64 n] w fun e w'=>e = .returned (.string ⟨(Lib.itoa n).toArray⟩)∧∃ k os,w'=grow (w.drewN k) os:=Any.strconv_Itoa Tryd.laysM171 n h0 h1 w htab
end Go.Proofs
namespace Go.Proofs.YtaojbkphcnailaaDoor
open Go.Sx
set_option maxRecDepth 20000
set_option linter.unusedSimpArgs false
set_option linter.unusedVariables false
set_option linter.unusedVariables false
theorem lprefix_c (t:List UInt8) (ht:t.length≤10000):NCall Tryd.prog 120 [.str t,.str [58,61]] [] fun r _=>r = .bool (decide (t.take 2=[58,61])):=by
  refine ncall_of Tryd.func120 rfl (by decide) ?_
  by_cases h:2≤t.length
  · (repeat' (first|(with_reducible first|(refine hK _ _ ?_;clear hK K)|(refine hK _ ?_;clear hK K))|((with_reducible first|refine z25 ?_|refine z26 ?_);intro K hK;(conv=>whnf))|(with_reducible refine z0 ?_)|((first|((with_reducible refine NIf.decY ?s ?_);case s=>assumption)|((with_reducible refine NIf.decN ?s ?_);case s=>assumption)|(with_reducible first|refine NIf.dec (fun _=>?_) (fun _=>?_)|refine NN.cast ?_)|((with_reducible refine NH.mk ?s ?_);case s=>(and_intros<;>omega))|(with_reducible refine NS.keep ?_))<;>(conv=>whnf))|(with_reducible first|refine z3 ?_|refine z4 ?_|refine z8 ?_|refine z1 ?_|refine z2 ?_)|((with_reducible refine gR ?_);(refine z31 rfl ?_;intro K hK;(conv=>whnf)))|((with_reducible refine gF ?_);(refine z33 rfl ?_;intro K hK;(conv=>whnf)))))
    all_goals first | rfl | (exfalso;simp only [List.length_cons,List.length_nil] at *;omega)
  · have hn:t.take 2≠[58,61]:=fun e=>by
      have:=congrArg List.length e
      rw [List.length_take] at this
      simp at this
      omega
    (repeat' (first|(with_reducible first|(refine hK _ _ ?_;clear hK K)|(refine hK _ ?_;clear hK K))|((with_reducible first|refine z25 ?_|refine z26 ?_);intro K hK;(conv=>whnf))|(with_reducible refine z0 ?_)|((first|((with_reducible refine NIf.decY ?s ?_);case s=>assumption)|((with_reducible refine NIf.decN ?s ?_);case s=>assumption)|(with_reducible first|refine NIf.dec (fun _=>?_) (fun _=>?_)|refine NN.cast ?_)|((with_reducible refine NH.mk ?s ?_);case s=>(and_intros<;>omega))|(with_reducible refine NS.keep ?_))<;>(conv=>whnf))|(with_reducible first|refine z3 ?_|refine z4 ?_|refine z8 ?_|refine z1 ?_|refine z2 ?_)|((with_reducible refine gR ?_);(refine z31 rfl ?_;intro K hK;(conv=>whnf)))|((with_reducible refine gF ?_);(refine z33 rfl ?_;intro K hK;(conv=>whnf)))))
    all_goals first | exact boolF hn | (exfalso;simp only [List.length_cons,List.length_nil] at *;omega)
theorem prefix_c (t:List UInt8) (ht:t.length≤10000):NCall Tryd.prog 104 [.str t,.str [58,61]] [] fun r _=>r = .bool (decide (t.take 2=[58,61])):=by
  have h:=lprefix_c t ht
  refine ncall_of Tryd.func104 rfl (by decide) ?_
  (repeat' (first|(with_reducible first|(refine hK _ _ ?_;clear hK K)|(refine hK _ ?_;clear hK K))|((with_reducible refine z25 ?_);intro K hK;(conv=>whnf))|(with_reducible refine z0 ?_)|(((with_reducible refine NCall.isF 120 ?_);refine NCall.pureE (h) ?_)<;>(conv=>whnf))|(with_reducible first|refine z3 ?_|refine z4 ?_|refine z8 ?_|refine z1 ?_|refine z2 ?_)|((with_reducible refine gR ?_);(refine z31 rfl ?_;intro K hK;(conv=>whnf)))|((with_reducible refine gF ?_);(refine z33 rfl ?_;intro K hK;(conv=>whnf)))))
  all_goals rfl
theorem index_dec:∀ n:Nat,n<256→(0≤Lib.indexByte [40,41,59,124,61] n.toUInt8↔Lx.isS n.toUInt8=true):=by decide +kernel
theorem index_c (c:UInt8):NCall Tryd.prog 105 [.str [40,41,59,124,61],.int .u8 c.toNat] [] fun r _=>∃ j:Int,r = .int .i64 j∧(0≤j↔Lx.isS c=true):=by
  have hc:=index_dec c.toNat c.toNat_lt
  have e:c.toNat.toUInt8=c:=by simp
  rw [e] at hc
  refine (ncall_below (r:=.int .i64 (Lib.indexByte [40,41,59,124,61] c)) (Go.Sx.enters_of Tryd.func105 rfl (by decide)) fun w hw=>?_).mono fun r m h=>⟨_,h.1,hc⟩
  refine (Tryd.strings_IndexByte ⟨#[40,41,59,124,61]⟩ c.toNat w).mono fun e' w' ⟨h1,h2⟩=>?_
  subst h2
  refine ⟨?_,rfl,rfl,rfl,Nat.le_refl _,fun _ _=>rfl⟩
  rw [h1,Int.toNat_natCast,e]
  rfl
theorem drop2 (tx:List UInt8) (i:Nat):((tx.drop i).take 2=[58,61])↔(i<tx.length∧tx.getD i 0=58∧(tx.drop (i+1)).head?=some 61):=by
  by_cases h:i<tx.length
  · rw [Lx.drop_getD tx i h]
    cases hr:tx.drop (i+1) with
    | nil=>simp
    | cons d r=>simp [h]
  · rw [List.drop_eq_nil_of_le (by omega)]
    simp;omega
set_option maxHeartbeats 2000000 in
theorem next_c (a:Addr) (tx:List UInt8) (i:Nat) (hi:i<tx.length) (hs:tx.length≤10000) :
    NCall Tryd.prog 83 [.ptr 0 a 0] [LB a tx i] fun r m =>
      (∀ b n,Lx.nextB (tx.drop i)=some (b,n)→r = .tup [tokAV b.k b.n b.s i,.bool true]∧MemFits m [LB a tx (i+n)]) ∧
      (Lx.nextB (tx.drop i)=none→r = .tup [tokAV 0 0 [] i,.bool false]∧∃ j,MemFits m [LB a tx j]):=by
  have hg:=Lx.drop_getD tx i hi
  have hnb:=Lx.nextB_eq (tx.getD i 0) (tx.drop (i+1))
  rw [← hg] at hnb
  have hl:=letter_c (tx.getD i 0)
  have hd:=digit_c (tx.getD i 0)
  have hp:=prefix_c (tx.drop i) (by rw [List.length_drop];omega)
  have hx:=index_c (tx.getD i 0)
  have h2:=drop2 tx i
  refine ncall_of Tryd.func83 rfl (by decide) ?_
  unfold tokAV
  by_cases c1:Lx.isL (tx.getD i 0)=true
  · rw [if_pos c1] at hnb
    rw [c1] at hl
    have hw:=while_c 101 Lx.isL letter_c a tx i (by omega) hs
    have hwl:Lx.wl Lx.isL tx i=((tx.drop i).takeWhile Lx.isL).length:=rfl
    rw [hwl] at hw
    generalize (tx.drop i).takeWhile Lx.isL=ws at *
    (repeat' (first|(with_reducible first|(refine hK _ _ ?_;clear hK K)|(refine hA ?_;clear hA hB A B)|(refine hK _ ?_;clear hK K))|((with_reducible refine z25 ?_);intro K hK;(conv=>whnf))|(with_reducible refine z0 ?_)|((first|((with_reducible refine NIf.yes ?s ?_);case s=>rfl)|(with_reducible first|refine NN.cast ?_|refine NN.a5 ?_)|((with_reducible refine NH.mk ?s ?_);case s=>(and_intros<;>first|with_reducible rfl|((with_reducible refine gOnes ?_);rfl)|((with_reducible refine gLen ?_);rfl)|omega|rfl))|((with_reducible refine NCall.isF 101 ?_);refine NCall.pureE (hl) ?_)|((with_reducible refine NCall.isF 98 ?_);refine NCall.subE [0] (hw) rfl (by decide) rfl rfl ?_))<;>(conv=>whnf))|(with_reducible first|refine z3 ?_|refine z4 ?_|refine z5 ?_|refine z8 ?_)|((with_reducible refine z29 ?_);intro A B hA hB;(conv=>whnf))|(with_reducible first|refine z1 ?_|refine z2 ?_|refine z12 ?_|refine z13 ?_)|((with_reducible refine gR ?_);(refine z31 rfl ?_;intro K hK;(conv=>whnf)))|((with_reducible refine gF ?_);(refine z33 rfl ?_;intro K hK;(conv=>whnf)))|((intro _;skip)<;>(conv=>whnf))))
    all_goals first
      | exact ⟨fun b n e=>by rw [hnb] at e;injection e with e;injection e with e1 e2;subst e1 e2;exact ⟨rfl,MemFits.drop [_] [_]⟩,fun e=>by rw [hnb] at e;cases e⟩
      | skip
  rw [if_neg c1] at hnb
  rw [show Lx.isL (tx.getD i 0)=false by simpa using c1] at hl
  by_cases c2:Lx.isD (tx.getD i 0)=true
  · rw [if_pos c2] at hnb
    rw [c2] at hd
    have hne:(tx.drop i).takeWhile Lx.isD≠[]:=by rw [hg,List.takeWhile_cons_of_pos c2];simp
    have h0:((tx.drop i).takeWhile Lx.isD).getD 0 0=tx.getD i 0:=by rw [hg,List.takeWhile_cons_of_pos c2];rfl
    have hw:NCall Tryd.prog 103 [.ptr 0 a 0] [LB a tx i] fun r m=>r = .tup [if Lx.numOk ((tx.drop i).takeWhile Lx.isD) then tokAV 2 (Lx.num ((tx.drop i).takeWhile Lx.isD)) [] i else tokAV 0 0 [] i,.bool (decide (Lx.numOk ((tx.drop i).takeWhile Lx.isD)))]∧m=[LB a tx (i+((tx.drop i).takeWhile Lx.isD).length)] :=
      (number_c a tx i (by omega) hs _ rfl hne).fits fun r m h=>⟨r,_,rfl,h.2,h.1,rfl⟩
    have hok:Lx.numOk ((tx.drop i).takeWhile Lx.isD)↔¬ (3<((tx.drop i).takeWhile Lx.isD).length∨(1<((tx.drop i).takeWhile Lx.isD).length∧tx.getD i 0=48)):=by unfold Lx.numOk;rw [h0]
    generalize (tx.drop i).takeWhile Lx.isD=ds at *
    by_cases hk:Lx.numOk ds
    · rw [if_neg (hok.1 hk)] at hnb
      rw [if_pos hk,decide_eq_true hk] at hw
      unfold tokAV at hw
      (repeat' (first|(with_reducible first|(refine hK _ _ ?_;clear hK K)|(refine hA ?_;clear hA hB A B)|(refine hB ?_;clear hA hB A B)|(refine hK _ ?_;clear hK K))|((with_reducible refine z25 ?_);intro K hK;(conv=>whnf))|(with_reducible refine z0 ?_)|((first|((with_reducible refine NIf.yes ?s ?_);case s=>rfl)|((with_reducible refine NIf.no ?s ?_);case s=>rfl)|(with_reducible first|refine NN.cast ?_|refine NN.a5 ?_)|((with_reducible refine NH.mk ?s ?_);case s=>(and_intros<;>first|with_reducible rfl|((with_reducible refine gOnes ?_);rfl)|((with_reducible refine gLen ?_);rfl)|omega|rfl))|((with_reducible refine NCall.isF 101 ?_);refine NCall.pureE (hl) ?_)|((with_reducible refine NCall.isF 102 ?_);refine NCall.pureE (hd) ?_)|((with_reducible refine NCall.isF 103 ?_);refine NCall.subE [0] (hw) rfl (by decide) rfl rfl ?_))<;>(conv=>whnf))|(with_reducible first|refine z3 ?_|refine z4 ?_|refine z5 ?_|refine z8 ?_)|((with_reducible refine z29 ?_);intro A B hA hB;(conv=>whnf))|(with_reducible first|refine z1 ?_|refine z2 ?_|refine z12 ?_|refine z13 ?_)|((with_reducible refine gR ?_);(refine z31 rfl ?_;intro K hK;(conv=>whnf)))|((with_reducible refine gF ?_);(refine z33 rfl ?_;intro K hK;(conv=>whnf)))|((intro _;skip)<;>(conv=>whnf))))
      all_goals first
        | exact ⟨fun b n e=>by rw [hnb] at e;injection e with e;injection e with e1 e2;subst e1 e2;exact ⟨rfl,MemFits.drop [_] [_]⟩,fun e=>by rw [hnb] at e;cases e⟩
        | skip
    · rw [if_pos (Decidable.not_not.1 fun q=>hk (hok.2 q))] at hnb
      rw [if_neg hk,decide_eq_false hk] at hw
      unfold tokAV at hw
      (repeat' (first|(with_reducible first|(refine hK _ _ ?_;clear hK K)|(refine hA ?_;clear hA hB A B)|(refine hB ?_;clear hA hB A B)|(refine hK _ ?_;clear hK K))|((with_reducible refine z25 ?_);intro K hK;(conv=>whnf))|(with_reducible refine z0 ?_)|((first|((with_reducible refine NIf.yes ?s ?_);case s=>rfl)|((with_reducible refine NIf.no ?s ?_);case s=>rfl)|(with_reducible first|refine NN.cast ?_|refine NN.a5 ?_)|((with_reducible refine NH.mk ?s ?_);case s=>(and_intros<;>first|with_reducible rfl|((with_reducible refine gOnes ?_);rfl)|((with_reducible refine gLen ?_);rfl)|omega|rfl))|((with_reducible refine NCall.isF 101 ?_);refine NCall.pureE (hl) ?_)|((with_reducible refine NCall.isF 102 ?_);refine NCall.pureE (hd) ?_)|((with_reducible refine NCall.isF 103 ?_);refine NCall.subE [0] (hw) rfl (by decide) rfl rfl ?_))<;>(conv=>whnf))|(with_reducible first|refine z3 ?_|refine z4 ?_|refine z5 ?_|refine z8 ?_)|((with_reducible refine z29 ?_);intro A B hA hB;(conv=>whnf))|(with_reducible first|refine z1 ?_|refine z2 ?_|refine z12 ?_|refine z13 ?_)|((with_reducible refine gR ?_);(refine z31 rfl ?_;intro K hK;(conv=>whnf)))|((with_reducible refine gF ?_);(refine z33 rfl ?_;intro K hK;(conv=>whnf)))|((intro _;skip)<;>(conv=>whnf))))
      all_goals first
        | exact ⟨fun b n e=>(by rw [hnb] at e;cases e),fun _=>⟨rfl,i+ds.length,MemFits.drop [_] [_]⟩⟩
        | skip
  rw [if_neg c2] at hnb
  rw [show Lx.isD (tx.getD i 0)=false by simpa using c2] at hd
  by_cases c3:(tx.drop i).take 2=[58,61]
  · have c3':=(h2.1 c3).2
    rw [if_pos c3'] at hnb
    rw [decide_eq_true c3] at hp
    (repeat' (first|(with_reducible first|(refine hK _ _ ?_;clear hK K)|(refine hA ?_;clear hA hB A B)|(refine hB ?_;clear hA hB A B)|(refine hK _ ?_;clear hK K))|((with_reducible refine z25 ?_);intro K hK;(conv=>whnf))|(with_reducible refine z0 ?_)|((first|((with_reducible refine NV.i64 ?s ?_);case s=>omega)|((with_reducible refine NIf.yes ?s ?_);case s=>rfl)|((with_reducible refine NIf.no ?s ?_);case s=>rfl)|(with_reducible first|refine NN.cast ?_|refine NN.a5 ?_)|((with_reducible refine NH.mk ?s ?_);case s=>(and_intros<;>first|with_reducible rfl|((with_reducible refine gOnes ?_);rfl)|((with_reducible refine gLen ?_);rfl)|omega|rfl))|((with_reducible refine NCall.isF 101 ?_);refine NCall.pureE (hl) ?_)|((with_reducible refine NCall.isF 102 ?_);refine NCall.pureE (hd) ?_)|((with_reducible refine NCall.isF 104 ?_);refine NCall.pureE (hp) ?_)|(with_reducible refine NS.keep ?_))<;>(conv=>whnf))|(with_reducible first|refine z3 ?_|refine z4 ?_|refine z5 ?_|refine z8 ?_)|((with_reducible refine z29 ?_);intro A B hA hB;(conv=>whnf))|(with_reducible first|refine z1 ?_|refine z2 ?_|refine z12 ?_|refine z13 ?_)|((with_reducible refine gR ?_);(refine z31 rfl ?_;intro K hK;(conv=>whnf)))|((with_reducible refine gF ?_);(refine z33 rfl ?_;intro K hK;(conv=>whnf)))|((intro _;skip)<;>(conv=>whnf))))
    all_goals first
      | exact ⟨fun b n e=>by rw [hnb] at e;injection e with e;injection e with e1 e2;subst e1 e2;exact ⟨rfl,MemFits.drop [_] [_]⟩,fun e=>by rw [hnb] at e;cases e⟩
      | skip
  have c3':¬ (tx.getD i 0=58∧(tx.drop (i+1)).head?=some 61):=fun e=>c3 (h2.2 ⟨hi,e⟩)
  rw [if_neg c3'] at hnb
  rw [decide_eq_false c3] at hp
  by_cases c4:Lx.isS (tx.getD i 0)=true
  · rw [if_pos c4] at hnb
    (repeat' (first|(with_reducible first|(refine hK _ _ ?_;clear hK K)|(refine hA ?_;clear hA hB A B)|(refine hB ?_;clear hA hB A B)|(refine hK _ ?_;clear hK K))|((with_reducible refine z25 ?_);intro K hK;(conv=>whnf))|(with_reducible refine z0 ?_)|((first|((with_reducible refine NV.i64 ?s ?_);case s=>omega)|((with_reducible refine NIf.no ?s ?_);case s=>rfl)|(with_reducible first|refine NIf.dec (fun _=>?_) (fun _=>?_)|refine NN.cast ?_|refine NN.a5 ?_)|((with_reducible refine NH.mk ?s ?_);case s=>(and_intros<;>first|with_reducible rfl|((with_reducible refine gOnes ?_);rfl)|((with_reducible refine gLen ?_);rfl)|omega|rfl))|((with_reducible refine NCall.isF 101 ?_);refine NCall.pureE (hl) ?_)|((with_reducible refine NCall.isF 102 ?_);refine NCall.pureE (hd) ?_)|((with_reducible refine NCall.isF 104 ?_);refine NCall.pureE (hp) ?_)|((with_reducible refine NCall.isF 105 ?_);refine NCall.pure (hx) ?_;rintro _ _ ⟨j,rfl,hj⟩;refine ⟨_,rfl,?_⟩)|(with_reducible refine NS.keep ?_))<;>(conv=>whnf))|(refine NBytes.mk [tx.getD i 0] rfl ?_;conv=>whnf)|(with_reducible first|refine z3 ?_|refine z4 ?_|refine z5 ?_|refine z6 ?_|refine z8 ?_)|((with_reducible refine z29 ?_);intro A B hA hB;(conv=>whnf))|(with_reducible first|refine z1 ?_|refine z2 ?_|refine z9 ?_|refine z12 ?_|refine z13 ?_)|((with_reducible refine gR ?_);(refine z31 rfl ?_;intro K hK;(conv=>whnf)))|((with_reducible refine gF ?_);(refine z33 rfl ?_;intro K hK;(conv=>whnf)))|((intro _;skip)<;>(conv=>whnf))))
    all_goals first
      | (exfalso;have:=hj.2 c4;omega)
      | exact ⟨fun b n e=>by rw [hnb] at e;injection e with e;injection e with e1 e2;subst e1 e2;exact ⟨rfl,MemFits.pre 1 rfl⟩,fun e=>by rw [hnb] at e;cases e⟩
      | skip
  · rw [if_neg c4] at hnb
    (repeat' (first|(with_reducible first|(refine hK _ _ ?_;clear hK K)|(refine hA ?_;clear hA hB A B)|(refine hB ?_;clear hA hB A B)|(refine hK _ ?_;clear hK K))|((with_reducible refine z25 ?_);intro K hK;(conv=>whnf))|(with_reducible refine z0 ?_)|((first|((with_reducible refine NV.i64 ?s ?_);case s=>omega)|((with_reducible refine NIf.no ?s ?_);case s=>rfl)|(with_reducible first|refine NIf.dec (fun _=>?_) (fun _=>?_)|refine NN.cast ?_|refine NN.a5 ?_)|((with_reducible refine NH.mk ?s ?_);case s=>(and_intros<;>first|with_reducible rfl|((with_reducible refine gOnes ?_);rfl)|((with_reducible refine gLen ?_);rfl)|omega|rfl))|((with_reducible refine NCall.isF 101 ?_);refine NCall.pureE (hl) ?_)|((with_reducible refine NCall.isF 102 ?_);refine NCall.pureE (hd) ?_)|((with_reducible refine NCall.isF 104 ?_);refine NCall.pureE (hp) ?_)|((with_reducible refine NCall.isF 105 ?_);refine NCall.pure (hx) ?_;rintro _ _ ⟨j,rfl,hj⟩;refine ⟨_,rfl,?_⟩)|(with_reducible refine NS.keep ?_))<;>(conv=>whnf))|(refine NBytes.mk [tx.getD i 0] rfl ?_;conv=>whnf)|(with_reducible first|refine z3 ?_|refine z4 ?_|refine z5 ?_|refine z6 ?_|refine z8 ?_)|((with_reducible refine z29 ?_);intro A B hA hB;(conv=>whnf))|(with_reducible first|refine z1 ?_|refine z2 ?_|refine z9 ?_|refine z12 ?_|refine z13 ?_)|((with_reducible refine gR ?_);(refine z31 rfl ?_;intro K hK;(conv=>whnf)))|((with_reducible refine gF ?_);(refine z33 rfl ?_;intro K hK;(conv=>whnf)))|((intro _;skip)<;>(conv=>whnf))))
    all_goals first
      | (exfalso;exact c4 (hj.1 (by omega)))
      | exact ⟨fun b n e=>(by rw [hnb] at e;cases e),fun _=>⟨rfl,i,MemFits.drop [_] [_]⟩⟩
      | skip
end Go.Proofs.YtaojbkphcnailaaDoor
