import Derived.Test.YtmehinfgdcmmjaaGreatDoorJ4
import Derived.Shelf.Strings.Builder1
import Derived.Shelf.Strings.Builder2
import Derived.Shelf.Strings.OnBuilder
import Derived.Shelf.Small.Bits
import Derived.Shelf.Small.Strs
import Derived.Shelf.Strings.BuilderF
import Derived.Shelf.Strconv.Itoa0
import Derived.Shelf.Strconv.Itoa1
import Derived.Shelf.LaysM
import Derived.Shelf.Strconv.Itoa2
import Derived.Shelf.Strconv.Itoa3
import Derived.Shelf.Strings.Search1
import Derived.Ground.SlgnProg
import Derived.Shelf.SlicesE.Compact
import Derived.Ground.SlgmProg
import Derived.Shelf.SortM.Plain
import Derived.Shelf.SortM.SortNone
import Derived.Test.YtmehinfgdcmmjaaGreatDoorProg
import Derived.Lib.Join
import Derived.Test.YtmehinfgdcmmjaaGreatDoorSxC
import Derived.Lib.ItoaLen
namespace Go.Proofs.YtmehinfgdcmmjaaGreatDoor
open Go.Sx
set_option maxRecDepth 20000
end Go.Proofs.YtmehinfgdcmmjaaGreatDoor
namespace Go.Proofs
open Go.Shelf
def Tryz.lays156_ren:Go.Shelf.Ren:=⟨fun | 156=>97 | 165=>138 | 166=>139 | 169=>140 | 240=>180 | 241=>181 | 276=>224 | 277=>225 | n=>n,fun | 31=>155 | 9=>9 | 3=>3 | 4=>4 | 0=>0 | 20=>20 | 72=>208 | 76=>212 | 70=>205 | 37=>206 | 75=>211 | 127=>252 | 164=>281 | 5=>5 | 80=>214 | n=>n,fun | n=>n⟩
theorem Tryz.lays156:Go.Proofs.Lays.n156 Tryz.prog Tryz.lays156_ren:={
  mixed:=by kernel_rfl
  f156:=Tryz.func97.trans (congrArg some (by kernel_rfl))
  f165:=Tryz.func138.trans (congrArg some (by kernel_rfl))
  f166:=Tryz.func139.trans (congrArg some (by kernel_rfl))
  f169:=Tryz.func140.trans (congrArg some (by kernel_rfl))
  f240:=Tryz.func180.trans (congrArg some (by kernel_rfl))
  f241:=Tryz.func181.trans (congrArg some (by kernel_rfl))
  f276:=Tryz.func224.trans (congrArg some (by kernel_rfl))
  f277:=Tryz.func225.trans (congrArg some (by kernel_rfl))
  t0:=Tryz.underlying0
  a0:=Tryz.isAgg0
  z0:=Tryz.sizeOf0
  v0:=Tryz.zeroValue0
  t3:=Tryz.underlying3
  a3:=Tryz.isAgg3
  z3:=Tryz.sizeOf3
  v3:=Tryz.zeroValue3
  t4:=Tryz.underlying4
  a4:=Tryz.isAgg4
  z4:=Tryz.sizeOf4
  v4:=Tryz.zeroValue4
  t9:=Tryz.underlying9
  a9:=Tryz.isAgg9
  z9:=Tryz.sizeOf9
  v9:=Tryz.zeroValue9
  t20:=Tryz.underlying20
  a20:=Tryz.isAgg20
  z20:=Tryz.sizeOf20
  v20:=Tryz.zeroValue20
  t31:=Tryz.underlying155
  a31:=Tryz.isAgg155
  z31:=Tryz.sizeOf155
  v31:=Tryz.zeroValue155
  t37:=Tryz.underlying206
  a37:=Tryz.isAgg206
  z37:=Tryz.sizeOf206
  v37:=Tryz.zeroValue206
  t70:=Tryz.underlying205
  a70:=Tryz.isAgg205
  z70:=Tryz.sizeOf205
  v70:=Tryz.zeroValue205
  t72:=Tryz.underlying208
  a72:=Tryz.isAgg208
  z72:=Tryz.sizeOf208
  v72:=Tryz.zeroValue208
  t75:=Tryz.underlying211
  a75:=Tryz.isAgg211
  z75:=Tryz.sizeOf211
  v75:=Tryz.zeroValue211
  t76:=Tryz.underlying212
  a76:=Tryz.isAgg212
  z76:=Tryz.sizeOf212
  v76:=Tryz.zeroValue212
  t127:=Tryz.underlying252
  a127:=Tryz.isAgg252
  z127:=Tryz.sizeOf252
  v127:=Tryz.zeroValue252
  t164:=Tryz.underlying281
  a164:=Tryz.isAgg281
  z164:=Tryz.sizeOf281
  v164:=Tryz.zeroValue281 }
theorem Tryz.Builder_Extra_156:Builder.Extra Tryz.prog Tryz.lays156_ren:={
  sizeBuilder:=by kernel_rfl
  liesBuilder:=by kernel_rfl
  t5:=Tryz.underlying5
  a5:=Tryz.isAgg5
  z5:=Tryz.sizeOf5
  v5:=Tryz.zeroValue5
  infoByte:=by kernel_rfl
  cellsByte:=by kernel_rfl
  sizeByte:=by kernel_rfl
  neB5:=by decide }
open Go.RowKit in
theorem Tryz.strings_Join_none (a:Option Addr) (c:Nat) (sep:ByteArray) (w:World) :
    Calls Tryz.prog 97 #[.slice a 0 c,.string sep] w fun e w'=>e = .returned (.string ⟨#[]⟩)∧w'=w:=Any.strings_Join_none Tryz.lays156 Tryz.Builder_Extra_156 a c sep w
open Go.RowKit in
theorem Tryz.strings_Join (bk o c:Nat) (xs:List ByteArray) (sep:ByteArray) (w:World) (hcells:∀ (j:Nat) x,xs[j]?=some x→w.cell? ⟨bk,o+j,none⟩=some (.string x)) (hbk:bk<w.heap.size) (hN:xs.length≤140737488355328) (hcap:xs.length≤c) (hlen:(Lib.join (xs.map (·.data.toList)) sep.data.toList).length≤140737488355328) :
    Calls Tryz.prog 97 #[.slice (some ⟨bk,o,none⟩) xs.length c,.string sep] w fun e w'=>e = .returned (.string ⟨(Lib.join (xs.map (·.data.toList)) sep.data.toList).toArray⟩)∧Below w.heap.size w w':=Any.strings_Join Tryz.lays156 Tryz.Builder_Extra_156 bk o c xs sep w hcells hbk hN hcap hlen
def Tryz.lays137_ren:Go.Shelf.Ren:=⟨fun | 137=>215 | 217=>235 | 266=>245 | n=>n,fun | 9=>9 | 5=>5 | 3=>3 | n=>n,fun | n=>n⟩
theorem Tryz.lays137:Go.Proofs.Lays.n137 Tryz.prog Tryz.lays137_ren:={
  mixed:=by kernel_rfl
  f137:=Tryz.func215.trans (congrArg some (by kernel_rfl))
  f217:=Tryz.func235.trans (congrArg some (by kernel_rfl))
  f266:=Tryz.func245.trans (congrArg some (by kernel_rfl))
  t3:=Tryz.underlying3
  a3:=Tryz.isAgg3
  z3:=Tryz.sizeOf3
  v3:=Tryz.zeroValue3
  t5:=Tryz.underlying5
  a5:=Tryz.isAgg5
  z5:=Tryz.sizeOf5
  v5:=Tryz.zeroValue5
  t9:=Tryz.underlying9
  a9:=Tryz.isAgg9
  z9:=Tryz.sizeOf9
  v9:=Tryz.zeroValue9 }
open Go.RowKit in
theorem Tryz.strings_IndexByte (s:ByteArray) (c:Int) (w:World) :
    Calls Tryz.prog 215 #[.string s,.int .u8 c] w fun e w'=>e = .returned (.int .i64 (Lib.indexByte s.data.toList c.toNat.toUInt8))∧w'=w:=Any.strings_IndexByte Tryz.lays137 s c w
def Tryz.laysM171_ren:Go.Shelf.Ren:=⟨fun | 171=>51 | 243=>95 | 246=>137 | 283=>176 | 284=>177 | 285=>178 | 286=>179 | 129=>167 | 317=>220 | 318=>221 | 319=>222 | 320=>223 | 337=>239 | 338=>240 | n=>n,fun | 3=>3 | 9=>9 | 2=>2 | 4=>4 | 171=>248 | 0=>0 | 53=>237 | 37=>206 | 5=>5 | 173=>250 | 212=>279 | 51=>235 | 20=>20 | 213=>280 | 46=>172 | 232=>294 | 233=>295 | n=>n,fun | 17=>0 | 18=>2 | 19=>3 | n=>n⟩
theorem Tryz.laysM171:Go.Proofs.LaysM.n171 Tryz.prog Tryz.laysM171_ren:={
  mixed:=by kernel_rfl
  f129:=Tryz.func167.trans (congrArg some (by kernel_rfl))
  f171:=Tryz.func51.trans (congrArg some (by kernel_rfl))
  f243:=Tryz.func95.trans (congrArg some (by kernel_rfl))
  f246:=Tryz.func137.trans (congrArg some (by kernel_rfl))
  f283:=Tryz.func176.trans (congrArg some (by kernel_rfl))
  f284:=Tryz.func177.trans (congrArg some (by kernel_rfl))
  f285:=Tryz.func178.trans (congrArg some (by kernel_rfl))
  f286:=Tryz.func179.trans (congrArg some (by kernel_rfl))
  f317:=Tryz.func220.trans (congrArg some (by kernel_rfl))
  f318:=Tryz.func221.trans (congrArg some (by kernel_rfl))
  f319:=Tryz.func222.trans (congrArg some (by kernel_rfl))
  f320:=Tryz.func223.trans (congrArg some (by kernel_rfl))
  f337:=Tryz.func239.trans (congrArg some (by kernel_rfl))
  f338:=Tryz.func240.trans (congrArg some (by kernel_rfl))
  t0:=Tryz.underlying0
  a0:=Tryz.isAgg0
  z0:=Tryz.sizeOf0
  v0:=Tryz.zeroValue0
  t2:=Tryz.underlying2
  a2:=Tryz.isAgg2
  z2:=Tryz.sizeOf2
  v2:=Tryz.zeroValue2
  t3:=Tryz.underlying3
  a3:=Tryz.isAgg3
  z3:=Tryz.sizeOf3
  v3:=Tryz.zeroValue3
  t4:=Tryz.underlying4
  a4:=Tryz.isAgg4
  z4:=Tryz.sizeOf4
  v4:=Tryz.zeroValue4
  t5:=Tryz.underlying5
  a5:=Tryz.isAgg5
  z5:=Tryz.sizeOf5
  v5:=Tryz.zeroValue5
  t9:=Tryz.underlying9
  a9:=Tryz.isAgg9
  z9:=Tryz.sizeOf9
  v9:=Tryz.zeroValue9
  t20:=Tryz.underlying20
  a20:=Tryz.isAgg20
  z20:=Tryz.sizeOf20
  v20:=Tryz.zeroValue20
  t37:=Tryz.underlying206
  a37:=Tryz.isAgg206
  z37:=Tryz.sizeOf206
  v37:=Tryz.zeroValue206
  t46:=Tryz.underlying172
  a46:=Tryz.isAgg172
  z46:=Tryz.sizeOf172
  v46:=Tryz.zeroValue172
  t51:=Tryz.underlying235
  a51:=Tryz.isAgg235
  z51:=Tryz.sizeOf235
  v51:=Tryz.zeroValue235
  t53:=Tryz.underlying237
  a53:=Tryz.isAgg237
  z53:=Tryz.sizeOf237
  v53:=Tryz.zeroValue237
  t171:=Tryz.underlying248
  a171:=Tryz.isAgg248
  z171:=Tryz.sizeOf248
  v171:=Tryz.zeroValue248
  t173:=Tryz.underlying250
  a173:=Tryz.isAgg250
  z173:=Tryz.sizeOf250
  v173:=Tryz.zeroValue250
  t212:=Tryz.underlying279
  a212:=Tryz.isAgg279
  z212:=Tryz.sizeOf279
  v212:=Tryz.zeroValue279
  t213:=Tryz.underlying280
  a213:=Tryz.isAgg280
  z213:=Tryz.sizeOf280
  t232:=Tryz.underlying294
  a232:=Tryz.isAgg294
  z232:=Tryz.sizeOf294
  v232:=Tryz.zeroValue294
  t233:=Tryz.underlying295
  a233:=Tryz.isAgg295
  z233:=Tryz.sizeOf295
  v233:=Tryz.zeroValue295
  g17:=by kernel_rfl
  g18:=by kernel_rfl
  g19:=by kernel_rfl
  i0:=by kernel_rfl
  i2:=by kernel_rfl
  i3:=by kernel_rfl
  i4:=by kernel_rfl
  i5:=by kernel_rfl
  i9:=by kernel_rfl
  i20:=by kernel_rfl
  i37:=by kernel_rfl
  i46:=by kernel_rfl
  i51:=by kernel_rfl
  i53:=by kernel_rfl
  i171:=by kernel_rfl
  i173:=by kernel_rfl
  i212:=by kernel_rfl
  i232:=by kernel_rfl
  i233:=by kernel_rfl
  m17:=by kernel_rfl
  m18:=by kernel_rfl
  m19:=by kernel_rfl }
open Go.RowKit Go.Sort Go.Lib in
theorem Tryz.strconv_Itoa (n : Int) (h0 : -9223372036854775808 ≤ n) (h1 : n ≤ 9223372036854775807) (w : World) (htab : Lib.TabIs Tryz.prog w "internal/strconv.uint64pow10" .u64 Lib.pow10Tab) :
    Calls Tryz.prog 51 #[.int .i64 n] w fun e w'=>e = .returned (.string ⟨(Lib.itoa n).toArray⟩)∧∃ k os,w'=grow (w.drewN k) os:=Any.strconv_Itoa Tryz.laysM171 n h0 h1 w htab
def Tryz.laysSlE43_f105_ren:Go.Shelf.Ren:=⟨fun | 43=>105 | n=>n,fun | 22=>58 | 23=>3 | 3=>3 | 4=>4 | 0=>0 | n=>n,fun | n=>n⟩
theorem Tryz.laysSlE43_f105:Go.Proofs.SlLaysE.n43 Tryz.prog Tryz.laysSlE43_f105_ren:={
  mixed:=by kernel_rfl
  f43:=⟨Tryz.f105.name,by decide,Tryz.func105.trans (congrArg some (by kernel_rfl))⟩
  t0:=Tryz.underlying0
  a0:=Tryz.isAgg0
  z0:=Tryz.sizeOf0
  v0:=Tryz.zeroValue0
  t3:=Tryz.underlying3
  a3:=Tryz.isAgg3
  z3:=Tryz.sizeOf3
  v3:=Tryz.zeroValue3
  t4:=Tryz.underlying4
  a4:=Tryz.isAgg4
  z4:=Tryz.sizeOf4
  v4:=Tryz.zeroValue4
  t22:=Tryz.underlying58
  a22:=Tryz.isAgg58
  z22:=Tryz.sizeOf58
  v22:=Tryz.zeroValue58
  a23:=Tryz.isAgg3
  z23:=Tryz.sizeOf3 }
open Go.RowKit Go.Lib Go.Sort in
theorem Tryz.slices_Compact {α:Type} [Inhabited α] [DecidableEq α] (enc:α→Value) (hO:OneCell enc) (heq:EqlAt Tryz.prog 3 enc (fun x y=>decide (x=y))) (hne:NeqAt Tryz.prog 3 enc (fun x y=>decide (x=y))) (zr:α) (v23:∀ w,(zeroValue 3).run Tryz.prog w = .ok (enc zr) w) (blk off cap:Nat) (d:Array α) (w:World) (hH:Holds enc w blk off d) (hsz:d.size≤9223372036854775807) (hcap:d.size≤cap) :
    Calls Tryz.prog 105 #[.slice (some ⟨blk,off,none⟩) d.size cap] w fun e w'=>e = .returned (.slice (some ⟨blk,off,none⟩) (compactUpTo d d.size).length cap)∧∃ q,w'=putRow enc (Sort.ahead w q) blk off (compactUpTo d d.size++List.replicate (d.size - (compactUpTo d d.size).length) zr).toArray:=AnyE.slices_Compact Tryz.laysSlE43_f105 enc hO heq hne zr v23 blk off cap d w hH hsz hcap
def Tryz.laysSlM5_f104_ren:Go.Shelf.Ren:=⟨fun | 5=>104 | 8=>114 | 7=>148 | 19=>166 | 20=>167 | 10=>190 | 11=>191 | 12=>192 | 13=>193 | 14=>194 | 15=>195 | 16=>196 | 17=>197 | 18=>198 | 30=>229 | 31=>201 | 32=>202 | 33=>230 | 34=>231 | 35=>115 | 40=>244 | n=>n,fun | 23=>58 | 25=>3 | 3=>3 | 32=>172 | 22=>58 | 0=>0 | 44=>235 | 46=>237 | 4=>4 | 36=>228 | 35=>227 | 41=>232 | 5=>5 | 9=>9 | 53=>263 | 57=>267 | 63=>287 | 64=>288 | n=>n,fun | n=>n⟩
theorem Tryz.laysSlM5_f104:Go.Proofs.SlLaysM.n5 Tryz.prog Tryz.laysSlM5_f104_ren:={
  mixed:=by kernel_rfl
  f5:=⟨Tryz.f104.name,by decide,Tryz.func104.trans (congrArg some (by kernel_rfl))⟩
  f7:=⟨Tryz.f148.name,by decide,Tryz.func148.trans (congrArg some (by kernel_rfl))⟩
  f8:=Tryz.func114.trans (congrArg some (by kernel_rfl))
  f10:=⟨Tryz.f190.name,by decide,Tryz.func190.trans (congrArg some (by kernel_rfl))⟩
  f11:=⟨Tryz.f191.name,by decide,Tryz.func191.trans (congrArg some (by kernel_rfl))⟩
  f12:=⟨Tryz.f192.name,by decide,Tryz.func192.trans (congrArg some (by kernel_rfl))⟩
  f13:=⟨Tryz.f193.name,by decide,Tryz.func193.trans (congrArg some (by kernel_rfl))⟩
  f14:=⟨Tryz.f194.name,by decide,Tryz.func194.trans (congrArg some (by kernel_rfl))⟩
  f15:=⟨Tryz.f195.name,by decide,Tryz.func195.trans (congrArg some (by kernel_rfl))⟩
  f16:=⟨Tryz.f196.name,by decide,Tryz.func196.trans (congrArg some (by kernel_rfl))⟩
  f17:=⟨Tryz.f197.name,by decide,Tryz.func197.trans (congrArg some (by kernel_rfl))⟩
  f18:=⟨Tryz.f198.name,by decide,Tryz.func198.trans (congrArg some (by kernel_rfl))⟩
  f19:=Tryz.func166.trans (congrArg some (by kernel_rfl))
  f20:=Tryz.func167.trans (congrArg some (by kernel_rfl))
  f30:=⟨Tryz.f229.name,by decide,Tryz.func229.trans (congrArg some (by kernel_rfl))⟩
  f31:=Tryz.func201.trans (congrArg some (by kernel_rfl))
  f32:=Tryz.func202.trans (congrArg some (by kernel_rfl))
  f33:=⟨Tryz.f230.name,by decide,Tryz.func230.trans (congrArg some (by kernel_rfl))⟩
  f34:=⟨Tryz.f231.name,by decide,Tryz.func231.trans (congrArg some (by kernel_rfl))⟩
  f35:=⟨Tryz.f115.name,by decide,Tryz.func115.trans (congrArg some (by kernel_rfl))⟩
  f40:=⟨Tryz.f244.name,by decide,Tryz.func244.trans (congrArg some (by kernel_rfl))⟩
  t0:=Tryz.underlying0
  a0:=Tryz.isAgg0
  z0:=Tryz.sizeOf0
  v0:=Tryz.zeroValue0
  t3:=Tryz.underlying3
  a3:=Tryz.isAgg3
  z3:=Tryz.sizeOf3
  v3:=Tryz.zeroValue3
  t4:=Tryz.underlying4
  a4:=Tryz.isAgg4
  z4:=Tryz.sizeOf4
  v4:=Tryz.zeroValue4
  t5:=Tryz.underlying5
  a5:=Tryz.isAgg5
  z5:=Tryz.sizeOf5
  v5:=Tryz.zeroValue5
  t9:=Tryz.underlying9
  a9:=Tryz.isAgg9
  z9:=Tryz.sizeOf9
  v9:=Tryz.zeroValue9
  t22:=Tryz.underlying58
  a22:=Tryz.isAgg58
  z22:=Tryz.sizeOf58
  v22:=Tryz.zeroValue58
  t23:=Tryz.underlying58
  a23:=Tryz.isAgg58
  z23:=Tryz.sizeOf58
  v23:=Tryz.zeroValue58
  t25:=Tryz.underlying3
  a25:=Tryz.isAgg3
  z25:=Tryz.sizeOf3
  v25:=Tryz.zeroValue3
  t32:=Tryz.underlying172
  a32:=Tryz.isAgg172
  z32:=Tryz.sizeOf172
  v32:=Tryz.zeroValue172
  t35:=Tryz.underlying227
  a35:=Tryz.isAgg227
  z35:=Tryz.sizeOf227
  v35:=Tryz.zeroValue227
  t36:=Tryz.underlying228
  a36:=Tryz.isAgg228
  z36:=Tryz.sizeOf228
  v36:=Tryz.zeroValue228
  t41:=Tryz.underlying232
  a41:=Tryz.isAgg232
  z41:=Tryz.sizeOf232
  v41:=Tryz.zeroValue232
  t44:=Tryz.underlying235
  a44:=Tryz.isAgg235
  z44:=Tryz.sizeOf235
  v44:=Tryz.zeroValue235
  t46:=Tryz.underlying237
  a46:=Tryz.isAgg237
  z46:=Tryz.sizeOf237
  v46:=Tryz.zeroValue237
  t53:=Tryz.underlying263
  a53:=Tryz.isAgg263
  z53:=Tryz.sizeOf263
  v53:=Tryz.zeroValue263
  t57:=Tryz.underlying267
  a57:=Tryz.isAgg267
  z57:=Tryz.sizeOf267
  v57:=Tryz.zeroValue267
  t63:=Tryz.underlying287
  a63:=Tryz.isAgg287
  z63:=Tryz.sizeOf287
  v63:=Tryz.zeroValue287
  t64:=Tryz.underlying288
  a64:=Tryz.isAgg288
  z64:=Tryz.sizeOf288
  v64:=Tryz.zeroValue288 }
open Go.Sort Go.RowKit in
theorem Tryz.slices_Sort_int (blk off cap:Nat) (zs:List Int) (w:World) (hH:Holds (Value.int .i64) w blk off zs.toArray) (hblk:blk<w.heap.size) (hsz:zs.length<4611686018427387904) :
    Calls Tryz.prog 104 #[.slice (some ⟨blk,off,none⟩) zs.length cap] w fun e w' =>
      e = .returned (.tuple #[])∧∃ n os,w'=grow (putRow (Value.int .i64) (Sort.ahead w n) blk off (zs.mergeSort fun x y=>decide (x≤y)).toArray) os:=AnyM.slices_Sort_int Tryz.laysSlM5_f104 blk off cap zs w hH hblk hsz
open Go.RowKit Go.Sort in
theorem Tryz.slices_Sort_int_none (p:Option Addr) (cap:Nat) (w:World) :
    Calls Tryz.prog 104 #[.slice p 0 cap] w fun e w'=>e = .returned (.tuple #[])∧w'=w:=AnyM.slices_Sort_int_none Tryz.laysSlM5_f104 p cap w
end Go.Proofs
namespace Go.Proofs.YtmehinfgdcmmjaaGreatDoor
open Go.Sx
def TabF (F:Heap):Prop:=∃ t fr,F.o 0 (.cells (Lib.pow10Tab.map fun z=>Value.int .u64 z).toArray t fr)
theorem TabF.mono {F G:Heap} (h:F.le G) (hF:TabF F):TabF G:=by
  obtain ⟨t,fr,h1⟩:=hF
  exact ⟨t,fr,h.o _ _ h1⟩
theorem MemOk.heapO {F:Heap} {w:World} (h:MemOk [hpB F] w) {b:Nat} {o:Obj} (ho:F.o b o):w.heap[b]?=some o :=
  (h.holds (hpB F) (by simp)).2.2 b o ho
theorem tab_is {F : Heap} (hF : TabF F) {w : World} (h : MemOk [hpB F] w) : Lib.TabIs Tryz.prog w "internal/strconv.uint64pow10" .u64 Lib.pow10Tab := by
  obtain ⟨t,fr,h1⟩:=hF
  have h2:=MemOk.heapO h h1
  have hg : Tryz.prog.globalNamed "internal/strconv.uint64pow10" = some 0 := by kernel_rfl
  unfold Lib.TabIs World.var?
  rw [hg]
  simp only [Option.bind_some,h2]
theorem itoa_c (F:Heap) (hF:TabF F) (n:Int) (hn : -9223372036854775808≤n∧n≤9223372036854775807):NCall Tryz.prog 51 [.int .i64 n] [hpB F] fun r m=>r = .str (Lib.itoa n)∧m=[hpB F]:=by
  refine ncall_below (Go.Sx.enters_of Tryz.func51 rfl (by decide)) fun w hw=>?_
  refine (Tryz.strconv_Itoa n hn.1 hn.2 w (tab_is hF hw)).mono fun e w' ⟨h1,k,os,h2⟩=>?_
  subst h2
  refine ⟨h1,rfl,rfl,rfl,by simp [Sort.grow,World.drewN],fun b hb=>?_⟩
  simp [Sort.grow,World.drewN,Array.getElem?_append_left hb]
def strV (x:List UInt8):List Value:=[.string ⟨x.toArray⟩]
theorem join_c (F:Heap) (v:Value) (l:List (List UInt8)) (sep:List UInt8) (hv:RowF F 1 (fun x vs=>vs=strV x) v l) (hl:(Lib.join l sep).length≤140737488355328) (hn:l.length≤140737488355328) :
    NCall Tryz.prog 97 [.hs v l.length,.str sep] [hpB F] fun r m=>r = .str (Lib.join l sep)∧m=[hpB F]:=by
  have hen:∀ (us:Array Value) (w:World),(callFunc 97 us).run Tryz.prog w = .ok (.enter 97 us) w:=Go.Sx.enters_of Tryz.func97 rfl (by decide)
  obtain ⟨⟨A,cap,rfl,hcap,hA⟩,hat⟩:=hv
  cases l with
  | nil =>
    refine ncall_below hen fun w hw=>?_
    refine (Tryz.strings_Join_none A cap ⟨sep.toArray⟩ w).mono fun e w' ⟨h1,h2⟩=>?_
    subst h2
    exact ⟨h1,rfl,rfl,rfl,Nat.le_refl _,fun _ _=>rfl⟩
  | cons x l =>
    refine ncall_below hen fun w hw=>?_
    have hc:∀ a u,F.c a u→a.block<w.heap.size∧w.cell? a=some u:=(hw.holds (hpB F) (by simp)).2.1
    cases A with
    | none=>have:=hA rfl;simp at hcap;omega
    | some a =>
      obtain ⟨vs,rfl,_,h0⟩:=hat 0 x rfl
      have h00:=hc _ _ h0.1
      have hsp:a.spot=none:=by
        have h1:=World.cell?_spot h00.2
        simpa [addrOf,Addr.add] using h1
      obtain ⟨bk,o,sp⟩:=a
      dsimp only at hsp
      subst hsp
      have hm:((x::l).map fun y=>(⟨y.toArray⟩:ByteArray)).map (·.data.toList)=x::l:=by simp [Function.comp_def]
      have hj:=Tryz.strings_Join bk o cap ((x::l).map fun y=>⟨y.toArray⟩) ⟨sep.toArray⟩ w (fun j y hy=>by
        rw [List.getElem?_map] at hy
        cases hx:(x::l)[j]? with
        | none=>rw [hx] at hy;cases hy
        | some z =>
          rw [hx] at hy
          injection hy with hy
          subst hy
          obtain ⟨vs,rfl,_,h1⟩:=hat j z hx
          have:=(hc _ _ h1.1).2
          by_cases hj0:j=0
          · subst hj0;simpa [addrOf,Addr.add] using this
          · simpa [addrOf,Addr.add,hj0] using this) (by have:=h00.1;rw [block_of_add] at this;exact this) (by simpa using hn) (by simpa using hcap) (by rw [hm];simpa using hl)
      rw [hm] at hj
      simp only [List.length_map] at hj
      refine hj.mono fun e w' ⟨h1,h2⟩=>?_
      exact ⟨by simpa [AV.den] using h1,h2.os,h2.tape,h2.output,h2.size,h2.block⟩
def strAV (l:List (List UInt8)):List AV:=l.map .str
theorem strAV_den (l:List (List UInt8)):denL (strAV l)=l.flatMap strV:=by
  induction l with
  | nil=>rfl
  | cons x l ih=>simp only [strAV,List.map_cons,List.flatMap_cons,strV,denL,AV.den] at *;rw [ih];rfl
theorem strAV_len (l:List (List UInt8)):(strAV l).length=l.length:=by simp [strAV]
theorem join_own (F:Heap) (v:Value) (l:List (List UInt8)) (sep:List UInt8) (t:TypeId) (m:List Blk) (hm:MemFits m [hpB F,⟨addrOf v,strAV l,.row v t 1 l.length⟩]) (hl:(Lib.join l sep).length≤140737488355328) (hn:l.length≤140737488355328) (i:Nat) :
    NCall Tryz.prog 97 [.sl i v l.length,.str sep] m fun r m'=>r = .str (Lib.join l sep)∧m'=m :=
  NCall.frozen (args':=[.hs v l.length,.str sep]) strV (join_c noHeap (.slice none 0 0) [] [] RowF.nil (by decide) (by decide)) rfl hm rfl (strAV_den l) (fun _ _=>rfl) fun G _ hr =>
    (join_c G v l sep hr hl hn).mono fun _ _ h=>⟨h.1,rfl⟩
theorem join_len {xs:List (List UInt8)} {sep:List UInt8} {B:Nat} (h:∀ x∈xs,x.length≤B):(Lib.join xs sep).length≤xs.length*(B+sep.length):=by
  have key:∀ r:List (List UInt8),(∀ x∈r,x.length≤B)→(Lib.joinTail sep r).length≤r.length*(B+sep.length):=by
    intro r
    induction r with
    | nil=>intro _;simp [Lib.joinTail]
    | cons y r ih =>
      intro hr
      have h1:=ih fun x hx=>hr x (List.mem_cons_of_mem _ hx)
      have h2:=hr y (by simp)
      have e:Lib.joinTail sep (y::r)=(sep++y)++Lib.joinTail sep r:=by simp [Lib.joinTail]
      rw [e,List.length_append,List.length_append,List.length_cons,Nat.add_mul,Nat.one_mul]
      omega
  cases xs with
  | nil=>simp [Lib.join,List.intercalate]
  | cons x r =>
    have h1:=key r fun y hy=>h y (List.mem_cons_of_mem _ hy)
    have h2:=h x (by simp)
    rw [Lib.join_cons,List.length_append,List.length_cons,Nat.add_mul,Nat.one_mul]
    omega
end Go.Proofs.YtmehinfgdcmmjaaGreatDoor
namespace Go.Proofs.YtmehinfgdcmmjaaGreatDoor
open Go.Sx
set_option maxRecDepth 20000
set_option linter.unusedSimpArgs false
set_option linter.unusedVariables false
def nameB (f:Nat):List UInt8:=match f with | 0=>[115,114,99] | 1=>[100,115,116] | 2=>[107,105,110,100] | _=>[116,97,103]
theorem names_c:NCall Tryz.prog 96 [] [] fun r _=>r = .agg [.str (nameB 0),.str (nameB 1),.str (nameB 2),.str (nameB 3)]:=by
  refine ncall_of Tryz.func96 rfl (by decide) ?_
  repeat' first|(refine sxZ ?_;try clear hK K)|refine sxW ?_ ?_<;>intro _|(intro K hK _;(conv=>whnf))
  rfl
namespace Mt
def fieldS (f:Nat) (v m:Nat):List UInt8:=nameB f++[32]++Lib.itoa v++(if (m:Int)=top f then [] else [47]++Lib.itoa m)
def partsTo (x:N):Nat→List (List UInt8)
  | 0=>if x.p = -1 then [] else [[112,111,114,116,32]++Lib.itoa x.p]
  | k+1=>partsTo x k++(if x.m k=0 then [] else [fieldS k (x.v k) (x.m k)])
def text (x:N):List UInt8:=if partsTo x 4=[] then [97,110,121] else Lib.join (partsTo x 4) [44,32]
theorem partsTo_len (x:N):∀ k,(partsTo x k).length≤k+1
  | 0=>by unfold partsTo;split<;>simp
  | k+1=>by
    have:=partsTo_len x k
    unfold partsTo
    split<;>simp<;>omega
theorem parts_size {x:N} (hp : -1≤x.p∧x.p≤7) (hx:x.lt):∀ k,k≤4→∀ y∈partsTo x k,y.length≤50
  | 0,_,y,hy=>by
    have:=Lib.itoa_length_le x.p (by omega) (by omega)
    unfold partsTo at hy
    split at hy
    · cases hy
    · rw [List.mem_singleton.1 hy];simp;omega
  | k+1,hk,y,hy=>by
    unfold partsTo at hy
    rcases List.mem_append.1 hy with h | h
    · exact parts_size hp hx k (by omega) y h
    · split at h
      · cases h
      · rw [List.mem_singleton.1 h]
        obtain ⟨h1,h2⟩:=hx k (by omega)
        have h3:=Lib.itoa_length_le (x.v k) (by omega) (by omega)
        have h4:=Lib.itoa_length_le (x.m k) (by omega) (by omega)
        have h5:(nameB k).length≤4:=by unfold nameB;split<;>decide
        unfold fieldS
        split<;>simp<;>omega
end Mt
set_option maxHeartbeats 2000000 in
theorem text_raw (F:Heap) (hF:TabF F) (x:Mt.N) (hp : -1≤x.p∧x.p≤7) (hx:x.lt):NCall Tryz.prog 52 [.agg x.toM.av] [hpB F] fun r m=>r = .str (Mt.text x)∧MemFits m [hpB F]:=by
  have hlen:=Mt.partsTo_len x 4
  have hsz:=Mt.parts_size hp hx 4 (Nat.le_refl _)
  have hv:∀ f,f<4→x.toM.av[1+f]?=some (.int .i64 (x.v f))∧x.toM.av[5+f]?=some (.int .i64 (x.m f)):=all4.2 ⟨⟨rfl,rfl⟩,⟨rfl,rfl⟩,⟨rfl,rfl⟩,rfl,rfl⟩
  have h0:x.toM.av[0]?=some (.int .i64 x.p):=rfl
  have hl9:x.toM.av.length=9:=rfl
  refine ncall_of Tryz.func52 rfl (by decide) ?_
  generalize x.toM.av=cs at *
  apply st_share1
  case main =>
    intro key
    have hI:=Lib.itoa_length_le x.p (by omega) (by omega)
    by_cases hpp:x.p = -1
    · have e0:Mt.partsTo x 0=[]:=by unfold Mt.partsTo;rw [if_pos hpp]
      repeat' first|((try intro K hK);(with_reducible refine gC ?_);refine cP names_c ?_)|((try intro K hK);refine nthK.of h0 ?_;(conv=>whnf))|(refine sxZ ?_;try clear hK K)|refine sxW ?_ ?_<;>intro _|(intro K hK _;(conv=>whnf))
      rename_i b
      refine st_loop (α:=Value × Nat) (fun z=>z.2≤4) (fun z=>[.any,.ptr 1 ⟨b,0,none⟩ 0,.str [],.sl 2 z.1 (Mt.partsTo x z.2).length,.any,.any,.any,.any,.any,.any,.any,.any,.any,.any,.any,.any,.agg [.str (nameB 0),.str (nameB 1),.str (nameB 2),.str (nameB 3)],.int .i64 z.2,.any,.any,.any,.any,.any,.any,.any,.any,.any,.any,.any,.any,.any,.any,.any,.any,.any,.any,.any,.any,.any,.any,.any,.any,.any,.any,.any,.any,.any,.any,.any,.any,.any,.any,.any,.any,.any,.any,.any,.any,.any,.any,.any,.any,.any,.any,.any,.any])
        (fun z=>[hpB F,⟨⟨b,0,none⟩,cs,.var 72⟩,⟨addrOf z.1,strAV (Mt.partsTo x z.2),.row z.1 9 1 (Mt.partsTo x z.2).length⟩]) (fun z=>4 - z.2)
        (.slice none 0 0,0) (Nat.zero_le _) ?_ ?_ (key.is b)
      · dsimp only
        rw [e0]
        exact fitsGo
      · dsimp only
        rw [e0]
        exact MemFits.nilRow _ _ _
    · have e0:Mt.partsTo x 0=[[112,111,114,116,32]++Lib.itoa x.p]:=by unfold Mt.partsTo;rw [if_neg hpp]
      repeat' first|((try intro K hK);(with_reducible refine gC ?_);first|refine cP names_c ?_|refine cS [0] (itoa_c F hF x.p (by omega)) ?_)|((try intro K hK);refine nthK.of h0 ?_;(conv=>whnf))|(refine sxZ ?_;try clear hK K)|refine sxW ?_ ?_<;>intro _|(intro K hK _;(conv=>whnf))
      rename_i b _ v
      refine st_loop (α:=Value × Nat) (fun z=>z.2≤4) (fun z=>[.any,.ptr 1 ⟨b,0,none⟩ 0,.str [],.sl 2 z.1 (Mt.partsTo x z.2).length,.any,.any,.any,.any,.any,.any,.any,.any,.any,.any,.any,.any,.agg [.str (nameB 0),.str (nameB 1),.str (nameB 2),.str (nameB 3)],.int .i64 z.2,.any,.any,.any,.any,.any,.any,.any,.any,.any,.any,.any,.any,.any,.any,.any,.any,.any,.any,.any,.any,.any,.any,.any,.any,.any,.any,.any,.any,.any,.any,.any,.any,.any,.any,.any,.any,.any,.any,.any,.any,.any,.any,.any,.any,.any,.any,.any,.any])
        (fun z=>[hpB F,⟨⟨b,0,none⟩,cs,.var 72⟩,⟨addrOf z.1,strAV (Mt.partsTo x z.2),.row z.1 9 1 (Mt.partsTo x z.2).length⟩]) (fun z=>4 - z.2)
        (v,0) (Nat.zero_le _) ?_ ?_ (key.is b)
      · dsimp only
        rw [e0]
        exact fitsGo
      · dsimp only
        rw [e0]
        exact MemFits.trans (MemFits.pick (m':=[_,_,_]) [0,1,3] (by decide) rfl) (MemFits.eq (by simp [strAV,repCells,AV.cells]))
  case pf =>
    rintro b ⟨v,k⟩ hk
    dsimp only at hk ⊢
    have hsk:∀ y∈Mt.partsTo x k,y.length≤50:=Mt.parts_size hp hx k hk
    have hlk:=Mt.partsTo_len x k
    rcases Nat.lt_or_ge k 4 with hlt | hge
    · have hs:Mt.partsTo x (k+1)=Mt.partsTo x k++(if x.m k=0 then [] else [Mt.fieldS k (x.v k) (x.m k)]):=rfl
      unfold Mt.fieldS at hs
      obtain ⟨h1,h5⟩:=hv k hlt
      obtain ⟨hv2,hm2⟩:=hx k hlt
      have hnm:[AV.str (nameB 0),AV.str (nameB 1),AV.str (nameB 2),AV.str (nameB 3)][k]?=some (.str (nameB k)):=by
        have:k=0∨k=1∨k=2∨k=3:=by omega
        rcases this with rfl | rfl | rfl | rfl<;>rfl
      have hnl:(nameB k).length≤4:=by unfold nameB;split<;>decide
      have htop:=top_c (k:Int) (by omega)
      generalize hps':Mt.partsTo x (k+1)=ps' at hs
      generalize Mt.partsTo x k=ps at *
      generalize x.v k=fv at *
      generalize x.m k=fm at *
      generalize nameB k=nm at hnm hnl hs
      generalize Mt.top (k:Int)=tp at htop hs
      generalize hns:[AV.str (nameB 0),AV.str (nameB 1),AV.str (nameB 2),AV.str (nameB 3)]=ns at hnm ⊢
      have hIv:=Lib.itoa_length_le fv (by omega) (by omega)
      have hIm:=Lib.itoa_length_le fm (by omega) (by omega)
      repeat' first|((try intro K hK);(with_reducible refine gC ?_);first|refine cP htop ?_|refine cS [0] (itoa_c F hF fv (by omega)) ?_|refine cS [0] (itoa_c F hF fm (by omega)) ?_)|((try intro K hK);refine nthK.of hnm ?_;(conv=>whnf))|((try intro K hK);refine nthK.of h1 ?_;(conv=>whnf))|((try intro K hK);refine nthK.of h5 ?_;(conv=>whnf))|(refine sxO ?_;try clear hK K)|refine sxW ?_ ?_<;>intro _|refine sxV ?_ ?_|(intro K hK _;(conv=>whnf))
      all_goals first
        | (have e:Mt.partsTo x (k+1)=ps:=by rw [hps',hs,if_pos (by omega),List.append_nil]
           refine st_round (v,k+1) hlt (by dsimp only;omega) ?_ (MemFits.eq ?_)
           · dsimp only
             rw [e]
             repeat (first | exact FitsSl.nil | refine FitsSl.any ?_ | refine FitsSl.cons (Fit1.int (by  first | rfl | omega)) ?_ | refine FitsSl.cons (Fit1.int (by first | rfl | omega)) ?_ | refine FitsSl.cons (Fit1.bool rfl) ?_ | refine FitsSl.cons (Fit1.str rfl) ?_ | refine FitsSl.cons (Fit1.same (by intro h;cases h) (by with_reducible rfl)) ?_ | refine FitsSl.cons Fit1.nil_sl ?_ | refine FitsSl.cons (Fit1.hs rfl) ?_ | refine FitsSl.cons (Fit1.hp rfl rfl) ?_ | refine FitsSl.cons (Fit1.sl rfl) ?_ | refine FitsSl.cons (Fit1.ptr rfl rfl) ?_ | refine FitsSl.cons Fit1.raw ?_)
           · dsimp only
             rw [e])
        | (have e:Mt.partsTo x (k+1)=ps++[nm++[32]++Lib.itoa fv]:=by rw [hps',hs,if_neg (by omega),if_pos (by omega),List.append_nil]
           rename_i v2
           refine st_round (v2,k+1) hlt (by dsimp only;omega) ?_ (MemFits.trans (MemFits.drop [_,_,_] [_]) (MemFits.eq ?_))
           · dsimp only
             rw [e,List.length_append]
             repeat (first | exact FitsSl.nil | refine FitsSl.any ?_ | refine FitsSl.cons (Fit1.int (by  first | rfl | omega)) ?_ | refine FitsSl.cons (Fit1.int (by first | rfl | omega)) ?_ | refine FitsSl.cons (Fit1.bool rfl) ?_ | refine FitsSl.cons (Fit1.str rfl) ?_ | refine FitsSl.cons (Fit1.same (by intro h;cases h) (by with_reducible rfl)) ?_ | refine FitsSl.cons Fit1.nil_sl ?_ | refine FitsSl.cons (Fit1.hs rfl) ?_ | refine FitsSl.cons (Fit1.hp rfl rfl) ?_ | refine FitsSl.cons (Fit1.sl rfl) ?_ | refine FitsSl.cons (Fit1.ptr rfl rfl) ?_ | refine FitsSl.cons Fit1.raw ?_)
           · dsimp only
             rw [e,List.length_append]
             simp [strAV,repCells])
        | (have e:Mt.partsTo x (k+1)=ps++[nm++[32]++Lib.itoa fv++[47]++Lib.itoa fm]:=by rw [hps',hs,if_neg (by omega),if_neg (by omega)];simp only [List.append_assoc]
           rename_i v2
           refine st_round (v2,k+1) hlt (by dsimp only;omega) ?_ (MemFits.trans (MemFits.drop [_,_,_] [_]) (MemFits.eq ?_))
           · dsimp only
             rw [e,List.length_append]
             repeat (first | exact FitsSl.nil | refine FitsSl.any ?_ | refine FitsSl.cons (Fit1.int (by  first | rfl | omega)) ?_ | refine FitsSl.cons (Fit1.int (by first | rfl | omega)) ?_ | refine FitsSl.cons (Fit1.bool rfl) ?_ | refine FitsSl.cons (Fit1.str rfl) ?_ | refine FitsSl.cons (Fit1.same (by intro h;cases h) (by with_reducible rfl)) ?_ | refine FitsSl.cons Fit1.nil_sl ?_ | refine FitsSl.cons (Fit1.hs rfl) ?_ | refine FitsSl.cons (Fit1.hp rfl rfl) ?_ | refine FitsSl.cons (Fit1.sl rfl) ?_ | refine FitsSl.cons (Fit1.ptr rfl rfl) ?_ | refine FitsSl.cons Fit1.raw ?_)
           · dsimp only
             rw [e,List.length_append]
             simp [strAV,repCells])
        | trace_state
    · have e:k=4:=by omega
      subst e
      have hT:Mt.text x=if Mt.partsTo x 4=[] then [97,110,121] else Lib.join (Mt.partsTo x 4) [44,32]:=rfl
      have hjl:=join_len (sep:=[44,32]) hsk
      generalize Mt.partsTo x 4=ps at *
      generalize Mt.text x=tx at *
      (repeat' (first|(refine sxA ?_;(first|clear hK K|skip);(first|clear hA hB A B|skip))|((with_reducible refine NCall.isF 97 ?_);(refine (join_own F v ps [44,32] 9 _ (MemFits.pick (m':=[hpB F,_]) [0,2] (by decide) rfl) (by simp at hjl;omega) (by omega) 2).mono ?_;rintro _ _ ⟨rfl,rfl⟩;(conv=>whnf)))|((with_reducible refine gX ?_);refine z34 (by kernel_rfl) (by kernel_rfl) ?_)|(refine sxIA ?_;intro K hK;(conv=>whnf))|(refine sxCA ?_;intro A B hA hB;(conv=>whnf);((with_reducible refine NIf.dec (fun _=>?_) (fun _=>?_))<;>(conv=>whnf)))|(refine sxCA ?_;intro A B hA hB;(conv=>whnf))|((with_reducible first|refine NIf.dec (fun _=>?_) (fun _=>?_)|refine NIf.both (fun _=>?_) (fun _=>?_))<;>(conv=>whnf))|((intro _;skip)<;>(conv=>whnf))))
      · exact ⟨by rw [hT,if_pos (List.eq_nil_of_length_eq_zero (by omega))],MemFits.drop [_] [_,_]⟩
      · exact ⟨by rw [hT,if_neg (fun e=>by subst e;contradiction)],MemFits.drop [_] [_,_]⟩
theorem text_c (F:Heap) (hF:TabF F) (x:Mt.N) (hx:x.ok):NCall Tryz.prog 52 [.agg x.toM.av] [hpB F] fun r m=>r = .str (Mt.text x)∧m=[hpB F] :=
  (text_raw F hF x hx.1 hx.lt).fits fun r m' h=>⟨r,[hpB F],rfl,h.2,h.1,rfl⟩
end Go.Proofs.YtmehinfgdcmmjaaGreatDoor
