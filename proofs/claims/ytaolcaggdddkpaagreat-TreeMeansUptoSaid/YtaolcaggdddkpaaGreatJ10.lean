/-
  DERIVED: THE SHELF's CONTRACTS AT THIS DUMP, IN PLAIN WORDS (tools/lay-plain.mjs out of 'TryzShelf.lean', which tools/lay-shelf.mjs wrote): THE SAME DECLARATIONS UNDER THE SAME NAMES: 'import', 'namespace', 'open', 'def', 'theorem' AND NOTHING ELSE: no command of the shelf's: FOR A HAND-IN. Each laying: the table of numbers ('.._ren') and one theorem, a field a fact of the dump's own or the kernel's comparison; each contract: ONE APPLICATION; Whole numbers in a row of one's own: the library's Sort and Compact.
-/
import Derived.Shelf.Small.Bits
import Derived.Shelf.Strconv.Itoa0
import Derived.Ground.SlgnProg
import Derived.Shelf.SlicesE.Compact
import Derived.Ground.SlgmProg
import Derived.Shelf.SortM.Plain
import Derived.Shelf.SortM.SortNone
import Derived.Test.YtaolcaggdddkpaaGreatProg
import Derived.Sort.OwnSortedInts
import Derived.Test.YtaolcaggdddkpaaGreatSxC
namespace Go.Proofs
open Go.Shelf
def Tryz.laysSlE43_f57_ren : Go.Shelf.Ren := ⟨fun | 43 => 57 | n => n, fun | 22 => 62 | 23 => 3 | 3 => 3 | 4 => 4 | 0 => 0 | n => n, fun | n => n⟩
theorem Tryz.laysSlE43_f57 : Go.Proofs.SlLaysE.n43 Tryz.prog Tryz.laysSlE43_f57_ren := {
  mixed := by kernel_rfl
  f43 := ⟨Tryz.f57.name, by decide, Tryz.func57.trans (congrArg some (by kernel_rfl))⟩
  t0 := Tryz.underlying0
  a0 := Tryz.isAgg0
  z0 := Tryz.sizeOf0
  v0 := Tryz.zeroValue0
  t3 := Tryz.underlying3
  a3 := Tryz.isAgg3
  z3 := Tryz.sizeOf3
  v3 := Tryz.zeroValue3
  t4 := Tryz.underlying4
  a4 := Tryz.isAgg4
  z4 := Tryz.sizeOf4
  v4 := Tryz.zeroValue4
  t22 := Tryz.underlying62
  a22 := Tryz.isAgg62
  z22 := Tryz.sizeOf62
  v22 := Tryz.zeroValue62
  a23 := Tryz.isAgg3
  z23 := Tryz.sizeOf3 }
open Go.RowKit Go.Lib Go.Sort in
/-- slices.Compact: "Compact replaces consecutive runs of equal elements with a single copy. .. Compact zeroes the elements between the new length and the original length.": IT RETURNS THE SLICE CUT TO 'compactUpTo d d.size'; ITS CELLS HOLD THAT, THEN ZERO VALUES up to the old length; the library's two loops are walked. (LAID AT THE INSTANCE 'slices.Compact[[]int,int]': no walk: one application.) -/
theorem Tryz.slices_Compact {α : Type} [Inhabited α] [DecidableEq α] (enc : α → Value) (hO : OneCell enc) (heq : EqlAt Tryz.prog 3 enc (fun x y => decide (x = y))) (hne : NeqAt Tryz.prog 3 enc (fun x y => decide (x = y))) (zr : α) (v23 : ∀ w, (zeroValue 3).run Tryz.prog w = .ok (enc zr) w) (blk off cap : Nat) (d : Array α) (w : World) (hH : Holds enc w blk off d) (hsz : d.size ≤ 9223372036854775807) (hcap : d.size ≤ cap) :
    Calls Tryz.prog 57 #[.slice (some ⟨blk, off, none⟩) d.size cap] w fun e w' => e = .returned (.slice (some ⟨blk, off, none⟩) (compactUpTo d d.size).length cap) ∧ ∃ q, w' = putRow enc (Sort.ahead w q) blk off (compactUpTo d d.size ++ List.replicate (d.size - (compactUpTo d d.size).length) zr).toArray := AnyE.slices_Compact Tryz.laysSlE43_f57 enc hO heq hne zr v23 blk off cap d w hH hsz hcap
def Tryz.laysSlM5_f56_ren : Go.Shelf.Ren := ⟨fun | 5 => 56 | 8 => 71 | 7 => 88 | 19 => 105 | 20 => 106 | 10 => 120 | 11 => 121 | 12 => 122 | 13 => 123 | 14 => 124 | 15 => 125 | 16 => 126 | 17 => 127 | 18 => 128 | 30 => 145 | 31 => 133 | 32 => 134 | 33 => 146 | 34 => 147 | 35 => 107 | 40 => 154 | n => n, fun | 23 => 62 | 25 => 3 | 3 => 3 | 32 => 111 | 22 => 62 | 0 => 0 | 44 => 140 | 46 => 142 | 4 => 4 | 36 => 133 | 35 => 132 | 41 => 137 | 5 => 5 | 9 => 9 | 53 => 160 | 57 => 164 | 63 => 171 | 64 => 172 | n => n, fun | n => n⟩
theorem Tryz.laysSlM5_f56 : Go.Proofs.SlLaysM.n5 Tryz.prog Tryz.laysSlM5_f56_ren := {
  mixed := by kernel_rfl
  f5 := ⟨Tryz.f56.name, by decide, Tryz.func56.trans (congrArg some (by kernel_rfl))⟩
  f7 := ⟨Tryz.f88.name, by decide, Tryz.func88.trans (congrArg some (by kernel_rfl))⟩
  f8 := Tryz.func71.trans (congrArg some (by kernel_rfl))
  f10 := ⟨Tryz.f120.name, by decide, Tryz.func120.trans (congrArg some (by kernel_rfl))⟩
  f11 := ⟨Tryz.f121.name, by decide, Tryz.func121.trans (congrArg some (by kernel_rfl))⟩
  f12 := ⟨Tryz.f122.name, by decide, Tryz.func122.trans (congrArg some (by kernel_rfl))⟩
  f13 := ⟨Tryz.f123.name, by decide, Tryz.func123.trans (congrArg some (by kernel_rfl))⟩
  f14 := ⟨Tryz.f124.name, by decide, Tryz.func124.trans (congrArg some (by kernel_rfl))⟩
  f15 := ⟨Tryz.f125.name, by decide, Tryz.func125.trans (congrArg some (by kernel_rfl))⟩
  f16 := ⟨Tryz.f126.name, by decide, Tryz.func126.trans (congrArg some (by kernel_rfl))⟩
  f17 := ⟨Tryz.f127.name, by decide, Tryz.func127.trans (congrArg some (by kernel_rfl))⟩
  f18 := ⟨Tryz.f128.name, by decide, Tryz.func128.trans (congrArg some (by kernel_rfl))⟩
  f19 := Tryz.func105.trans (congrArg some (by kernel_rfl))
  f20 := Tryz.func106.trans (congrArg some (by kernel_rfl))
  f30 := ⟨Tryz.f145.name, by decide, Tryz.func145.trans (congrArg some (by kernel_rfl))⟩
  f31 := Tryz.func133.trans (congrArg some (by kernel_rfl))
  f32 := Tryz.func134.trans (congrArg some (by kernel_rfl))
  f33 := ⟨Tryz.f146.name, by decide, Tryz.func146.trans (congrArg some (by kernel_rfl))⟩
  f34 := ⟨Tryz.f147.name, by decide, Tryz.func147.trans (congrArg some (by kernel_rfl))⟩
  f35 := ⟨Tryz.f107.name, by decide, Tryz.func107.trans (congrArg some (by kernel_rfl))⟩
  f40 := ⟨Tryz.f154.name, by decide, Tryz.func154.trans (congrArg some (by kernel_rfl))⟩
  t0 := Tryz.underlying0
  a0 := Tryz.isAgg0
  z0 := Tryz.sizeOf0
  v0 := Tryz.zeroValue0
  t3 := Tryz.underlying3
  a3 := Tryz.isAgg3
  z3 := Tryz.sizeOf3
  v3 := Tryz.zeroValue3
  t4 := Tryz.underlying4
  a4 := Tryz.isAgg4
  z4 := Tryz.sizeOf4
  v4 := Tryz.zeroValue4
  t5 := Tryz.underlying5
  a5 := Tryz.isAgg5
  z5 := Tryz.sizeOf5
  v5 := Tryz.zeroValue5
  t9 := Tryz.underlying9
  a9 := Tryz.isAgg9
  z9 := Tryz.sizeOf9
  v9 := Tryz.zeroValue9
  t22 := Tryz.underlying62
  a22 := Tryz.isAgg62
  z22 := Tryz.sizeOf62
  v22 := Tryz.zeroValue62
  t23 := Tryz.underlying62
  a23 := Tryz.isAgg62
  z23 := Tryz.sizeOf62
  v23 := Tryz.zeroValue62
  t25 := Tryz.underlying3
  a25 := Tryz.isAgg3
  z25 := Tryz.sizeOf3
  v25 := Tryz.zeroValue3
  t32 := Tryz.underlying111
  a32 := Tryz.isAgg111
  z32 := Tryz.sizeOf111
  v32 := Tryz.zeroValue111
  t35 := Tryz.underlying132
  a35 := Tryz.isAgg132
  z35 := Tryz.sizeOf132
  v35 := Tryz.zeroValue132
  t36 := Tryz.underlying133
  a36 := Tryz.isAgg133
  z36 := Tryz.sizeOf133
  v36 := Tryz.zeroValue133
  t41 := Tryz.underlying137
  a41 := Tryz.isAgg137
  z41 := Tryz.sizeOf137
  v41 := Tryz.zeroValue137
  t44 := Tryz.underlying140
  a44 := Tryz.isAgg140
  z44 := Tryz.sizeOf140
  v44 := Tryz.zeroValue140
  t46 := Tryz.underlying142
  a46 := Tryz.isAgg142
  z46 := Tryz.sizeOf142
  v46 := Tryz.zeroValue142
  t53 := Tryz.underlying160
  a53 := Tryz.isAgg160
  z53 := Tryz.sizeOf160
  v53 := Tryz.zeroValue160
  t57 := Tryz.underlying164
  a57 := Tryz.isAgg164
  z57 := Tryz.sizeOf164
  v57 := Tryz.zeroValue164
  t63 := Tryz.underlying171
  a63 := Tryz.isAgg171
  z63 := Tryz.sizeOf171
  v63 := Tryz.zeroValue171
  t64 := Tryz.underlying172
  a64 := Tryz.isAgg172
  z64 := Tryz.sizeOf172
  v64 := Tryz.zeroValue172 }
open Go.Sort Go.RowKit in
theorem Tryz.slices_Sort_int (blk off cap : Nat) (zs : List Int) (w : World) (hH : Holds (Value.int .i64) w blk off zs.toArray) (hblk : blk < w.heap.size) (hsz : zs.length < 4611686018427387904) :
    Calls Tryz.prog 56 #[.slice (some ⟨blk, off, none⟩) zs.length cap] w fun e w' =>
      e = .returned (.tuple #[]) ∧ ∃ n os, w' = grow (putRow (Value.int .i64) (Sort.ahead w n) blk off (zs.mergeSort fun x y => decide (x ≤ y)).toArray) os := AnyM.slices_Sort_int Tryz.laysSlM5_f56 blk off cap zs w hH hblk hsz
open Go.RowKit Go.Sort in
/-- .. and plain. (LAID AT THE INSTANCE 'slices.Sort[[]int,int]': no walk: one application.) -/
theorem Tryz.slices_Sort_int_none (p : Option Addr) (cap : Nat) (w : World) :
    Calls Tryz.prog 56 #[.slice p 0 cap] w fun e w' => e = .returned (.tuple #[]) ∧ w' = w := AnyM.slices_Sort_int_none Tryz.laysSlM5_f56 p cap w
end Go.Proofs
namespace Go.Proofs.YtaolcaggdddkpaaGreat
open Go.Sx
set_option linter.unusedVariables false
set_option maxRecDepth 20000
set_option linter.unusedSimpArgs false
set_option linter.unusedVariables false
namespace Srt
def av (l : List Int) : List AV := l.map fun z => .int .i64 z
def V (z : Int) : List Value := [.int .i64 z]
abbrev Row (F : Heap) (v : Value) (l : List Int) : Prop := RowF F 1 (fun x us => us = V x) v l
theorem av_den : ∀ l, denL (av l) = l.map (Value.int .i64)
  | [] => rfl
  | x :: l => by
    have := av_den l
    unfold av at *
    rw [List.map_cons, denL, this]
    rfl
theorem av_flat (l : List Int) : denL (av l) = l.flatMap V := by
  rw [av_den]
  induction l with
  | nil => rfl
  | cons x l ih => rw [List.map_cons, ih]; rfl
theorem av_len (l : List Int) : (av l).length = l.length := by unfold av; rw [List.length_map]
theorem av_append (a b : List Int) : av (a ++ b) = av a ++ av b := by unfold av; rw [List.map_append]
def sort (l : List Int) : List Int := l.mergeSort fun x y => decide (x ≤ y)
theorem sort_len (l : List Int) : (sort l).length = l.length := List.length_mergeSort l
/-- A slice of the first k elements. -/
def cutTo (v : Value) (k : Nat) : Value := match v with | .slice a _ c => .slice a k c | _ => v
end Srt
theorem sort_c (v : Value) (t : TypeId) (l : List Int) (hl : l.length < 4611686018427387904) :
    NCall Tryz.prog 56 [.sl 0 v l.length] [⟨addrOf v, Srt.av l, .row v t 1 l.length⟩] fun r m => r = .tup [] ∧ m = [⟨addrOf v, Srt.av (Srt.sort l), .row v t 1 l.length⟩] := by
  rw [NCall_iff]
  refine ⟨Go.Sx.enters_of Tryz.func56 rfl (by decide), fun w hm => ?_⟩
  obtain ⟨⟨h1, h2⟩, h3⟩ := hm.holds _ (List.mem_singleton.2 rfl)
  rcases h2 with ⟨rfl, hn⟩ | ⟨g, cap, cur, rfl, _, hg, hle, hcap, hsz, htk⟩
  · have e : l = [] := List.length_eq_zero_iff.1 hn
    subst e
    rw [show Srt.sort [] = [] by unfold Srt.sort; simp]
    refine (Tryz.slices_Sort_int_none none 0 w).mono fun e w' ⟨he, hw⟩ => ?_
    subst hw
    exact ⟨.tup [], _, ⟨rfl, rfl⟩, he, hm, Fr.refl _ _, Fresh.self _ _⟩
  · rw [Nat.mul_one, Srt.av_den] at htk
    have hlt : g < w.heap.size := (Array.getElem?_eq_some_iff.1 hg).1
    refine (Tryz.slices_Sort_int g 0 cap l w (Go.holds_of_blockI hg htk) hlt hl).mono fun e w' ⟨he, n, os, hw⟩ => ?_
    have hgr := Go.grownBy_sortedI (w := w) (g := g) (n := n) (os := os) (Srt.sort l).toArray
    have hown := Go.ownsRow_sortedI (w := w) (base := 0) (n := n) (e := t) (os := os) (ss := l) (ts := Srt.sort l) (Srt.sort_len l) (Nat.zero_le _) hg hle hcap hsz
    rw [← Srt.av_den] at hown
    have hw' : w' = Go.Sort.grow (Go.Sort.putRow (Value.int .i64) (Go.Sort.ahead w n) g 0 (Srt.sort l).toArray) os := hw
    rw [← hw'] at hgr hown
    have hfr := Fr.grown hgr
    refine ⟨.tup [], _, ⟨rfl, rfl⟩, he, ?_, ?_, ?_⟩
    · exact hm.set (i := 0) (k := ⟨addrOf (.slice (some ⟨g, 0, none⟩) l.length cap), Srt.av (Srt.sort l), .row (.slice (some ⟨g, 0, none⟩) l.length cap) t 1 l.length⟩) hfr.size rfl rfl
        (fun b hb hlt => hfr.block b hlt fun e => hb e) ⟨hown, rfl⟩ (fun F e => by cases e) (.inr (.inl rfl))
    · exact ⟨hfr.os, hfr.tape, hfr.output, hfr.size, fun k hk hS => hfr.block k hk fun e => hS ⟨_, List.mem_singleton.2 rfl, rfl, e⟩⟩
    · exact Fresh.set (i := 0) (Fresh.self _ _) (k := ⟨addrOf (.slice (some ⟨g, 0, none⟩) l.length cap), Srt.av (Srt.sort l), .row (.slice (some ⟨g, 0, none⟩) l.length cap) t 1 l.length⟩) (fun F e => by cases e) fun b hb => .inl ⟨_, List.mem_singleton.2 rfl, rfl, hb⟩
namespace Srt
/-- What the library's Compact leaves in the row. -/
def comp (l : List Int) : List Int := Go.Lib.compact l
theorem comp_le (l : List Int) : (comp l).length ≤ l.length := by
  unfold comp Go.Lib.compact Go.Lib.compactUpTo
  rw [List.length_map]
  exact Nat.le_trans (List.length_filter_le _ _) (by simp)
def comped (l : List Int) : List Int := comp l ++ List.replicate (l.length - (comp l).length) 0
theorem comped_len (l : List Int) : (comped l).length = l.length := by
  have := comp_le l
  unfold comped
  rw [List.length_append, List.length_replicate]
  omega
end Srt
theorem compact_nil (t : TypeId) : NCall Tryz.prog 57 [.sl 0 (.slice none 0 0) 0] [⟨addrOf (.slice none 0 0), [], .row (.slice none 0 0) t 1 0⟩] fun r m => r = .sl 0 (.slice none 0 0) 0 ∧ m = [⟨addrOf (.slice none 0 0), [], .row (.slice none 0 0) t 1 0⟩] := by
  refine ncall_of Tryz.func57 rfl (by decide) ?_
  (repeat' (first|(with_reducible first|(refine hK _ _ ?_;clear hK K)|(refine hA ?_;clear hA hB A B)|(refine hK _ ?_;clear hK K))|((with_reducible refine gO ?_);(first|((with_reducible refine z25 ?_);intro K hK;(conv=>whnf))|(with_reducible refine z0 ?_)))|((first|((with_reducible refine gI ?_);(((with_reducible refine NIf.decY ?s ?_);case s=>omega)))|((with_reducible refine gH ?_);((with_reducible refine NH.mk ?s ?_);case s=>(and_intros<;>with_reducible rfl))))<;>(conv=>whnf))|((with_reducible refine gX ?_);(first|(with_reducible first|refine z3 ?_|refine z4 ?_|refine z8 ?_)|((with_reducible refine z29 ?_);intro A B hA hB;(conv=>whnf))))|(with_reducible first|refine z1 ?_|refine z2 ?_|refine z12 ?_)|((with_reducible refine gR ?_);((refine z31 rfl ?_);intro K hK;(conv=>whnf)))|((with_reducible refine gF ?_);((refine z33 rfl ?_);intro K hK;(conv=>whnf)))))
  all_goals exact ⟨rfl, rfl⟩
theorem compact_c (v : Value) (t : TypeId) (l : List Int) (hl : l.length ≤ 9223372036854775807) :
    NCall Tryz.prog 57 [.sl 0 v l.length] [⟨addrOf v, Srt.av l, .row v t 1 l.length⟩] fun r m => r = .raw (Srt.cutTo v (Srt.comp l).length) ∧ m = [⟨addrOf v, Srt.av (Srt.comped l), .row v t 1 l.length⟩] := by
  rw [NCall_iff]
  refine ⟨Go.Sx.enters_of Tryz.func57 rfl (by decide), fun w hm => ?_⟩
  obtain ⟨⟨h1, h2⟩, h3⟩ := hm.holds _ (List.mem_singleton.2 rfl)
  rcases h2 with ⟨rfl, hn⟩ | ⟨g, cap, cur, rfl, _, hg, hle, hcap, hsz, htk⟩
  · have e : l = [] := List.length_eq_zero_iff.1 hn
    subst e
    refine ((NCall_iff.1 (compact_nil t)).2 w hm).mono fun e w' ⟨r, m', ⟨hr, hm'⟩, he, h⟩ => ?_
    subst hr hm'
    exact ⟨.raw (.slice none 0 0), _, ⟨rfl, rfl⟩, he, h⟩
  · rw [Nat.mul_one, Srt.av_den] at htk
    have hlt : g < w.heap.size := (Array.getElem?_eq_some_iff.1 hg).1
    have hc := Tryz.slices_Compact (Value.int .i64) (fun _ => rfl) (EqlAt.intD _ _ .i64) (NeqAt.intD _ _ .i64) 0 Tryz.zeroValue3 g 0 cap l.toArray w (Go.holds_of_blockI hg htk) (by simpa using hl) (by simpa using hle)
    refine hc.mono fun e w' ⟨he, n, hw⟩ => ?_
    have hgr := Go.grownBy_sortedI (w := w) (g := g) (n := n) (os := #[]) (Srt.comped l).toArray
    have hown := Go.ownsRow_sortedI (w := w) (base := 0) (n := n) (e := t) (os := #[]) (ss := l) (ts := Srt.comped l) (Srt.comped_len l) (Nat.zero_le _) hg hle hcap hsz
    rw [← Srt.av_den] at hown
    have hw' : w' = Go.Sort.grow (Go.Sort.putRow (Value.int .i64) (Go.Sort.ahead w n) g 0 (Srt.comped l).toArray) #[] := by rw [Go.Sort.grow_empty]; exact hw
    rw [← hw'] at hgr hown
    have hfr := Fr.grown hgr
    refine ⟨.raw (.slice (some ⟨g, 0, none⟩) (Srt.comp l).length cap), _, ⟨rfl, rfl⟩, he, ?_, ?_, ?_⟩
    · exact hm.set (i := 0) (k := ⟨addrOf (.slice (some ⟨g, 0, none⟩) l.length cap), Srt.av (Srt.comped l), .row (.slice (some ⟨g, 0, none⟩) l.length cap) t 1 l.length⟩) hfr.size rfl rfl
        (fun b hb hlt => hfr.block b hlt fun e => hb e) ⟨hown, rfl⟩ (fun F e => by cases e) (.inr (.inl rfl))
    · exact ⟨hfr.os, hfr.tape, hfr.output, hfr.size, fun k hk hS => hfr.block k hk fun e => hS ⟨_, List.mem_singleton.2 rfl, rfl, e⟩⟩
    · exact Fresh.set (i := 0) (Fresh.self _ _) (k := ⟨addrOf (.slice (some ⟨g, 0, none⟩) l.length cap), Srt.av (Srt.comped l), .row (.slice (some ⟨g, 0, none⟩) l.length cap) t 1 l.length⟩) (fun F e => by cases e) fun b hb => .inl ⟨_, List.mem_singleton.2 rfl, rfl, hb⟩
namespace Srt
/-- The first k of a row lie in the slice of the first k. -/
theorem row_cut {F : Heap} {v : Value} {a b : List Int} (h : Row F v (a ++ b)) : Row F (cutTo v a.length) a ∧ cutTo v a.length = slOf (cutTo v a.length) := by
  obtain ⟨⟨A, cap, rfl, hle, hA⟩, hat⟩ := h
  rw [List.length_append] at hle
  refine ⟨⟨⟨A, cap, rfl, by omega, hA⟩, fun k x hx => ?_⟩, rfl⟩
  have hk := (List.getElem?_eq_some_iff.1 hx).1
  have e : addrOf (cutTo (.slice A (a ++ b).length cap) a.length) = addrOf (.slice A (a ++ b).length cap) := by cases A <;> rfl
  rw [e]
  exact hat k x (by rw [List.getElem?_append_left hk]; exact hx)
end Srt
end Go.Proofs.YtaolcaggdddkpaaGreat
