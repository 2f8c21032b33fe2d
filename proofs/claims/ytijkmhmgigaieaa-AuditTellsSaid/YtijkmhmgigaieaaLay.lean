import Derived.Shelf.Small.Bits
import Derived.Shelf.Small.Wraps
import Derived.Shelf.Strconv.Itoa0
import Derived.Shelf.Sort.Plain
import Derived.Shelf.Slices.Turned
import Derived.Shelf.Slices.Equal
import Derived.Ground.Names2Prog
import Derived.Shelf.Slices.CompactI
import Derived.Shelf.Slices.SearchI
import Derived.Shelf.Slices.Cells
import Derived.Shelf.Slices.In.SortNone
import Derived.Shelf.Slices.Empties2
import Derived.Ground.SlgnProg
import Derived.Shelf.SlicesE.Equal
import Derived.Shelf.SlicesE.Compact
import Derived.Test.YtijkmhmgigaieaaProg
namespace Go.Proofs
open Go.Shelf
def Try.lays189_ren:Go.Shelf.Ren:=⟨fun | 189=>51 | 125=>59 | 257=>58 | 128=>74 | 129=>75 | 294=>65 | 295=>66 | 296=>67 | 297=>68 | 298=>69 | 299=>70 | 216=>71 | 300=>72 | 301=>73 | 328=>79 | 329=>80 | 330=>81 | 331=>82 | 332=>83 | 215=>84 | 343=>85 | n=>n,fun | 28=>30 | 3=>3 | 46=>108 | 0=>0 | 51=>120 | 53=>122 | 4=>4 | 183=>113 | 182=>112 | 131=>61 | 5=>5 | 9=>9 | 218=>130 | 222=>134 | 228=>136 | 229=>137 | n=>n,fun | n=>n⟩
theorem Try.lays189:Go.Proofs.Lays.n189 Try.prog Try.lays189_ren:={
  mixed:=by kernel_rfl
  f125:=Try.func59.trans (congrArg some (by kernel_rfl))
  f128:=Try.func74.trans (congrArg some (by kernel_rfl))
  f129:=Try.func75.trans (congrArg some (by kernel_rfl))
  f189:=Try.func51.trans (congrArg some (by kernel_rfl))
  f215:=Try.func84.trans (congrArg some (by kernel_rfl))
  f216:=Try.func71.trans (congrArg some (by kernel_rfl))
  f257:=Try.func58.trans (congrArg some (by kernel_rfl))
  f294:=Try.func65.trans (congrArg some (by kernel_rfl))
  f295:=Try.func66.trans (congrArg some (by kernel_rfl))
  f296:=Try.func67.trans (congrArg some (by kernel_rfl))
  f297:=Try.func68.trans (congrArg some (by kernel_rfl))
  f298:=Try.func69.trans (congrArg some (by kernel_rfl))
  f299:=Try.func70.trans (congrArg some (by kernel_rfl))
  f300:=Try.func72.trans (congrArg some (by kernel_rfl))
  f301:=Try.func73.trans (congrArg some (by kernel_rfl))
  f328:=Try.func79.trans (congrArg some (by kernel_rfl))
  f329:=Try.func80.trans (congrArg some (by kernel_rfl))
  f330:=Try.func81.trans (congrArg some (by kernel_rfl))
  f331:=Try.func82.trans (congrArg some (by kernel_rfl))
  f332:=Try.func83.trans (congrArg some (by kernel_rfl))
  f343:=Try.func85.trans (congrArg some (by kernel_rfl))
  t0:=Try.underlying0
  a0:=Try.isAgg0
  z0:=Try.sizeOf0
  v0:=Try.zeroValue0
  t3:=Try.underlying3
  a3:=Try.isAgg3
  z3:=Try.sizeOf3
  v3:=Try.zeroValue3
  t4:=Try.underlying4
  a4:=Try.isAgg4
  z4:=Try.sizeOf4
  v4:=Try.zeroValue4
  t5:=Try.underlying5
  a5:=Try.isAgg5
  z5:=Try.sizeOf5
  v5:=Try.zeroValue5
  t9:=Try.underlying9
  a9:=Try.isAgg9
  z9:=Try.sizeOf9
  v9:=Try.zeroValue9
  t28:=Try.underlying30
  a28:=Try.isAgg30
  z28:=Try.sizeOf30
  v28:=Try.zeroValue30
  t46:=Try.underlying108
  a46:=Try.isAgg108
  z46:=Try.sizeOf108
  v46:=Try.zeroValue108
  t51:=Try.underlying120
  a51:=Try.isAgg120
  z51:=Try.sizeOf120
  v51:=Try.zeroValue120
  t53:=Try.underlying122
  a53:=Try.isAgg122
  z53:=Try.sizeOf122
  v53:=Try.zeroValue122
  t131:=Try.underlying61
  a131:=Try.isAgg61
  z131:=Try.sizeOf61
  v131:=Try.zeroValue61
  t182:=Try.underlying112
  a182:=Try.isAgg112
  z182:=Try.sizeOf112
  v182:=Try.zeroValue112
  t183:=Try.underlying113
  a183:=Try.isAgg113
  z183:=Try.sizeOf113
  v183:=Try.zeroValue113
  t218:=Try.underlying130
  a218:=Try.isAgg130
  z218:=Try.sizeOf130
  v218:=Try.zeroValue130
  t222:=Try.underlying134
  a222:=Try.isAgg134
  z222:=Try.sizeOf134
  v222:=Try.zeroValue134
  t228:=Try.underlying136
  a228:=Try.isAgg136
  z228:=Try.sizeOf136
  v228:=Try.zeroValue136
  t229:=Try.underlying137
  a229:=Try.isAgg137
  z229:=Try.sizeOf137
  v229:=Try.zeroValue137 }
open Go.Sort Go.RowKit in
theorem Try.slices_Sort_int (blk off cap:Nat) (zs:List Int) (w:World) (hH:Holds (Value.int .i64) w blk off zs.toArray) (hblk:blk<w.heap.size) (hsz:zs.length<4611686018427387904) :
    Calls Try.prog 51 #[.slice (some ⟨blk,off,none⟩) zs.length cap] w fun e w' =>
      e = .returned (.tuple #[])∧∃ n os,w'=grow (putRow (Value.int .i64) (Sort.ahead w n) blk off (zs.mergeSort fun x y=>decide (x≤y)).toArray) os:=Any.slices_Sort_int Try.lays189 blk off cap zs w hH hblk hsz
open Go.RowKit Go.Sort in
theorem Try.slices_Sort_int_none (p:Option Addr) (cap:Nat) (w:World) :
    Calls Try.prog 51 #[.slice p 0 cap] w fun e w'=>e = .returned (.tuple #[])∧w'=w:=Any.slices_Sort_int_none Try.lays189 p cap w
def Try.laysSlE43_f42_ren:Go.Shelf.Ren:=⟨fun | 43=>42 | n=>n,fun | 22=>30 | 23=>3 | 3=>3 | 4=>4 | 0=>0 | n=>n,fun | n=>n⟩
theorem Try.laysSlE43_f42:Go.Proofs.SlLaysE.n43 Try.prog Try.laysSlE43_f42_ren:={
  mixed:=by kernel_rfl
  f43:=⟨Try.f42.name,by decide,Try.func42.trans (congrArg some (by kernel_rfl))⟩
  t0:=Try.underlying0
  a0:=Try.isAgg0
  z0:=Try.sizeOf0
  v0:=Try.zeroValue0
  t3:=Try.underlying3
  a3:=Try.isAgg3
  z3:=Try.sizeOf3
  v3:=Try.zeroValue3
  t4:=Try.underlying4
  a4:=Try.isAgg4
  z4:=Try.sizeOf4
  v4:=Try.zeroValue4
  t22:=Try.underlying30
  a22:=Try.isAgg30
  z22:=Try.sizeOf30
  v22:=Try.zeroValue30
  a23:=Try.isAgg3
  z23:=Try.sizeOf3 }
open Go.RowKit Go.Lib Go.Sort in
theorem Try.slices_Compact {α:Type} [Inhabited α] [DecidableEq α] (enc:α→Value) (hO:OneCell enc) (heq:EqlAt Try.prog 3 enc (fun x y=>decide (x=y))) (hne:NeqAt Try.prog 3 enc (fun x y=>decide (x=y))) (zr:α) (v23:∀ w,(zeroValue 3).run Try.prog w = .ok (enc zr) w) (blk off cap:Nat) (d:Array α) (w:World) (hH:Holds enc w blk off d) (hsz:d.size≤9223372036854775807) (hcap:d.size≤cap) :
    Calls Try.prog 42 #[.slice (some ⟨blk,off,none⟩) d.size cap] w fun e w'=>e = .returned (.slice (some ⟨blk,off,none⟩) (compactUpTo d d.size).length cap)∧∃ q,w'=putRow enc (Sort.ahead w q) blk off (compactUpTo d d.size++List.replicate (d.size - (compactUpTo d d.size).length) zr).toArray:=AnyE.slices_Compact Try.laysSlE43_f42 enc hO heq hne zr v23 blk off cap d w hH hsz hcap
end Go.Proofs
