/-
  Blanks: the library's fields of a text, over what is read alone.
-/
import Derived.Test.YtdalneokgejmjaaDoorLib1
import Derived.Test.YtdalneokgejmjaaDoorLib2
import Derived.Shelf.Strings.FieldsAny
namespace Go.Proofs.YtdalneokgejmjaaDoor
open Go.Sx Go.RowKit
set_option maxRecDepth 20000
set_option linter.unusedVariables false
/-- The library's table of blanks below 256. -/
def SpaceF (F : Heap) : Prop := ∃ t fr, F.o 0 (.cells (Lib.asciiSpaceTab.map fun z => Value.int .u8 z).toArray t fr)
/-- The library's ranges of blanks. -/
def WhiteF (F : Heap) : Prop :=
  ∃ T oT R oR : Nat, F.c ⟨2, 0, none⟩ (.pointer (some ⟨T, oT, none⟩)) ∧ F.c ⟨T, oT, none⟩ (.slice (some ⟨R, oR, none⟩) 7 7) ∧
    F.c ⟨T, oT + 1, none⟩ (.slice none 0 0) ∧ F.c ⟨T, oT + 2, none⟩ (.int .i64 2) ∧ ∀ i, i < 21 → F.c ⟨R, oR + i, none⟩ (.int .u16 (Lib.whiteT.getD i 0))
theorem SpaceF.mono {F G : Heap} (h : F.le G) (hF : SpaceF F) : SpaceF G := by
  obtain ⟨t, fr, h1⟩ := hF
  exact ⟨t, fr, h.o _ _ h1⟩
theorem WhiteF.mono {F G : Heap} (h : F.le G) (hF : WhiteF F) : WhiteF G := by
  obtain ⟨T, oT, R, oR, h1, h2, h3, h4, h5⟩ := hF
  exact ⟨T, oT, R, oR, h.c _ _ h1, h.c _ _ h2, h.c _ _ h3, h.c _ _ h4, fun i hi => h.c _ _ (h5 i hi)⟩
theorem space_is {F : Heap} (hF : SpaceF F) {w : World} (h : MemOk [hpB F] w) : Lib.TabIs Tryd.prog w "strings.asciiSpace" .u8 Lib.asciiSpaceTab := by
  obtain ⟨t, fr, h1⟩ := hF
  have h2 := MemOk.heapO h h1
  have hg : Tryd.prog.globalNamed "strings.asciiSpace" = some 0 := by kernel_rfl
  unfold Lib.TabIs World.var?
  rw [hg]
  simp only [Option.bind_some, h2]
theorem white_is {F : Heap} (hF : WhiteF F) {w : World} (h : MemOk [hpB F] w) : Lib.WhiteTab 2 w := by
  obtain ⟨T, oT, R, oR, h1, h2, h3, h4, h5⟩ := hF
  have hc : ∀ a u, F.c a u → a.block < w.heap.size ∧ w.cell? a = some u := (h.holds (hpB F) (by simp)).2.1
  exact ⟨T, oT, R, oR, (hc _ _ h1).2, (hc _ _ h2).2, (hc _ _ h3).2, (hc _ _ h4).2, fun i hi => (hc _ _ (h5 i hi)).2⟩
theorem fieldsD_raw (F : Heap) (hS : SpaceF F) (hW : WhiteF F) (s : List UInt8) (hs : s.length ≤ 100000) : NCall Tryd.prog 22 [.str s] [hpB F] fun r m => ∃ u l, l = Lib.fieldsD s ∧ r.den = slOf u ∧ MemFits m [hpB F, ⟨addrOf u, strAV l, .row u 9 1 l.length⟩] := by
  rw [NCall_iff]
  refine ⟨Go.Sx.enters_of Tryd.func22 rfl (by decide), fun w hw => ?_⟩
  have hsz : (⟨s.toArray⟩ : ByteArray).size = s.length := by simp [ByteArray.size]
  refine (Tryd.strings_Fields_any ⟨s.toArray⟩ w (by rw [hsz]; omega) (space_is hS hw) (white_is hW hw)).mono fun e w' ⟨A, he, hA, hrow, hb⟩ => ?_
  have hden : denL (strAV (Lib.fieldsD s)) = (Lib.fieldsD (⟨s.toArray⟩ : ByteArray).data.toList).map fun x => Value.string ⟨x.toArray⟩ := by
    rw [show (⟨s.toArray⟩ : ByteArray).data.toList = s from rfl]
    unfold strAV
    generalize Lib.fieldsD s = L
    induction L with
    | nil => rfl
    | cons x L ih => simp only [List.map_cons, denL, AV.den]; rw [ih]
  rw [← hden, show (⟨s.toArray⟩ : ByteArray).data.toList = s from rfl] at hrow
  rw [show (⟨s.toArray⟩ : ByteArray).data.toList = s from rfl] at he
  generalize Lib.fieldsD s = l at *
  have hkept : MemOk [hpB F] w' := hw.keep hb.size fun k hk b hbk => hb.block b ((hw.holds k hk).lt hbk)
  have hF : ∀ b, (hpB F).foot b → b < w.heap.size := fun b hb' => (hw.holds (hpB F) (by simp)).lt hb'
  refine ⟨.raw (.slice (some ⟨A, 0, none⟩) l.length l.length), [hpB F, ⟨⟨A, 0, none⟩, strAV l, .row (.slice (some ⟨A, 0, none⟩) l.length l.length) 9 1 l.length⟩], ⟨.slice (some ⟨A, 0, none⟩) l.length l.length, l, rfl, rfl, MemFits.eq rfl⟩, he, ⟨fun k hk => ?_, ?_⟩, ⟨hb.os, hb.tape, hb.output, hb.size, fun k hk _ => hb.block k hk⟩, fun b ⟨k, hk, hkw, hkb⟩ => ?_, fun b ⟨k, hk, hkb⟩ => ?_⟩
  · simp only [List.mem_cons, List.not_mem_nil, or_false] at hk
    rcases hk with rfl | rfl
    · exact hkept.holds _ (by simp)
    · refine ⟨?_, rfl⟩
      obtain ⟨h1, h2⟩ := hrow
      refine ⟨h1, ?_⟩
      rcases h2 with h2 | ⟨g, cap, cur, h3, h4, h5⟩
      · exact .inl h2
      · exact .inr ⟨g, cap, cur, h3, Nat.zero_le _, h5⟩
  · simp only [List.pairwise_cons, List.mem_singleton, forall_eq, List.not_mem_nil, false_implies, implies_true, List.Pairwise.nil, and_true]
    intro _ b h1 h2
    have h3 := hF b h1
    simp only [Blk.foot, Blk.bn, Value.ownBlock, Option.some.injEq] at h2
    omega
  · simp only [List.mem_cons, List.not_mem_nil, or_false] at hk
    rcases hk with rfl | rfl
    · cases hkw
    · simp only [Blk.bn, Value.ownBlock, Option.some.injEq] at hkb
      exact .inr (by omega)
  · simp only [List.mem_cons, List.not_mem_nil, or_false] at hk
    rcases hk with rfl | rfl
    · exact .inl ⟨_, by simp, hkb⟩
    · simp only [Blk.foot, Blk.bn, Value.ownBlock, Option.some.injEq] at hkb
      exact .inr (by omega)
theorem fieldsD_c (F : Heap) (hS : SpaceF F) (hW : WhiteF F) (s : List UInt8) (hs : s.length ≤ 100000) : NCall Tryd.prog 22 [.str s] [hpB F] fun r m => ∃ F' u l, l = Lib.fieldsD s ∧ F.le F' ∧ r = .hs u l.length ∧ m = [hpB F'] ∧ RowF F' 1 (fun x us => us = strV x) u l :=
  NCall.grow strV strAV (fun l => l = Lib.fieldsD s) (fieldsD_raw F hS hW s hs) strAV_den (fun _ => rfl)
end Go.Proofs.YtdalneokgejmjaaDoor
