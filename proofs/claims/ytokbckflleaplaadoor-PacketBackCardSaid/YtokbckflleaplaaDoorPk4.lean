/-
  The library's fields and numerals, over what is read alone.
-/
import Derived.Test.YtokbckflleaplaaDoorLay2
import Derived.Test.YtokbckflleaplaaDoorPk1
import Derived.Test.YtokbckflleaplaaDoorLib2
namespace Go.Proofs.YtokbckflleaplaaDoor
open Go.Sx Go.RowKit
set_option maxRecDepth 20000
set_option linter.unusedVariables false
/-- The library's two errors. -/
def ErrF (F : Heap) : Prop := (∃ u v, F.c ⟨0, 0, none⟩ (.iface u v)) ∧ ∃ u v, F.c ⟨1, 0, none⟩ (.iface u v)
theorem ErrF.mono {F G : Heap} (h : F.le G) (hF : ErrF F) : ErrF G := by
  obtain ⟨⟨u, v, h1⟩, u', v', h2⟩ := hF
  exact ⟨⟨u, v, h.c _ _ h1⟩, u', v', h.c _ _ h2⟩
theorem ncall_kept {P : Program} {f : FuncId} {args : List AV} {m : List Blk} {K : AV → Prop} (hen : ∀ (us : Array Value) (w : World), (callFunc f us).run P w = .ok (.enter f us) w)
    (h : ∀ w, MemOk m w → Calls P f (denL args).toArray w fun e w' => ∃ r, K r ∧ e = .returned r.den ∧ w'.os = w.os ∧ w'.tape = w.tape ∧ w'.output = w.output ∧ w.heap.size ≤ w'.heap.size ∧ ∀ k, k < w.heap.size → w'.heap[k]? = w.heap[k]?) : NCall P f args m fun r' m' => K r' ∧ m' = m := by
  rw [NCall_iff]
  refine ⟨hen, fun w hm => (h w hm).mono fun e w' ⟨r, hr, he, h1, h2, h3, h4, h5⟩ => ⟨r, m, ⟨hr, rfl⟩, he, ?_, ⟨h1, h2, h3, h4, fun k hk _ => h5 k hk⟩, fun _ hb => .inl hb, fun _ hb => .inl hb⟩⟩
  exact hm.keep h4 fun k hk b hb => h5 b ((hm.holds k hk).lt hb)
namespace Pk
/-- What a text tells as a number, whatever it is. -/
def atv (s : List UInt8) : Int :=
  match Lib.atoiAll s with
  | .ok v => v
  | .range => Lib.atoiSat s
  | _ => 0
end Pk
theorem atoi_c (F : Heap) (hE : ErrF F) (s : List UInt8) (hs : s.length ≤ 1000) : NCall Tryd.prog 103 [.str s] [hpB F] fun r m => (∃ x, r = .tup [.int .i64 (Pk.atv s), .raw x]) ∧ m = [hpB F] := by
  obtain ⟨⟨u1, v1, h1⟩, u2, v2, h2⟩ := hE
  refine ncall_kept (Go.Sx.enters_of Tryd.func103 rfl (by decide)) fun w hw => ?_
  have hc : ∀ a u, F.c a u → a.block < w.heap.size ∧ w.cell? a = some u := (hw.holds (hpB F) (by simp)).2.1
  have hsz : (⟨s.toArray⟩ : ByteArray).size = s.length := by simp [ByteArray.size]
  cases ha : Lib.atoiAll s
  · rename_i v
    refine (Tryd.strconv_Atoi_ok ⟨s.toArray⟩ (by rw [hsz]; omega) v (by simpa using ha) w).mono fun e w' ⟨he, hw'⟩ => ?_
    refine ⟨.tup [.int .i64 v, .raw .nilIface], ⟨.nilIface, by unfold Pk.atv; rw [ha]⟩, by rw [he]; rfl, ?_⟩
    rcases hw' with rfl | ⟨t, rfl⟩
    · exact ⟨rfl, rfl, rfl, Nat.le_refl _, fun _ _ => rfl⟩
    · exact ⟨rfl, rfl, rfl, by rw [Lib.bytesWorld_size]; omega, fun k hk => Lib.bytesWorld_at_old w _ _ k hk⟩
  · refine (Any.strconv_Atoi_syntax Tryd.laysC172 ⟨s.toArray⟩ (by rw [hsz]; omega) (by simpa using ha) _ w (hc _ _ h1).2 (.inr ⟨_, _, rfl⟩)).mono fun e w' ⟨N, he, _, _, hb⟩ => ?_
    exact ⟨.tup [.int .i64 0, .raw (.iface _ (.pointer (some ⟨N, 0, none⟩)))], ⟨_, by unfold Pk.atv; rw [ha]⟩, by rw [he]; rfl, hb.os, hb.tape, hb.output, hb.size, hb.block⟩
  · refine (Tryd.strconv_Atoi_range ⟨s.toArray⟩ (by rw [hsz]; omega) (by simpa using ha) _ w (hc _ _ h2).2 (.inr ⟨_, _, rfl⟩)).mono fun e w' ⟨N, he, _, _, hb⟩ => ?_
    exact ⟨.tup [.int .i64 (Lib.atoiSat s), .raw (.iface _ (.pointer (some ⟨N, 0, none⟩)))], ⟨_, by unfold Pk.atv; rw [ha]⟩, by rw [he]; rfl, hb.os, hb.tape, hb.output, hb.size, hb.block⟩
namespace Pk
def sep (x : Nat) : Bool := decide (x = 62) || decide (x = 32)
def flds (s : List UInt8) : List (List UInt8) := (Lib.goFieldsP sep ⟨s.toArray⟩).map (·.data.toList)
end Pk
theorem sep_gives (W : World) (x : Nat) (hx : x ≤ 1114111) : FnGives Tryd.prog 102 #[] #[encR x] (.bool (Pk.sep x)) W := by
  unfold FnGives
  by_cases h1 : x = 62 <;> by_cases h2 : x = 32
  all_goals
    have z1 : (x : Int) = 62 ↔ x = 62 := by omega
    have z2 : (x : Int) = 32 ↔ x = 32 := by omega
    go_enter Tryd.func102, Tryd.ntmps102
    go_wp2
    all_goals first | (exfalso; omega) | (go_ret; exact ⟨by simp [Pk.sep, h1, h2, z1, z2], 0, rfl⟩)
theorem fields7_raw (F : Heap) (s : List UInt8) (hs : s.length ≤ 1000) : NCall Tryd.prog 101 [.str s, .fn 102 [] []] [hpB F] fun r m => ∃ u l, l = Pk.flds s ∧ r.den = slOf u ∧ MemFits m [hpB F, ⟨addrOf u, strAV l, .row u 9 1 l.length⟩] := by
  rw [NCall_iff]
  refine ⟨Go.Sx.enters_of Tryd.func101 rfl (by decide), fun w hw => ?_⟩
  have hsz : (⟨s.toArray⟩ : ByteArray).size = s.length := by simp [ByteArray.size]
  refine (Tryd.strings_FieldsFunc_runes 102 #[] (Go.Sx.enters_of Tryd.func102 rfl (by decide)) Pk.sep ⟨s.toArray⟩ w (by rw [hsz]; omega) fun W x hx _ => sep_gives W x hx).mono fun e w' ⟨A, he, hA, hrow, hb⟩ => ?_
  have hlen : (Pk.flds s).length = (Lib.goFieldsP Pk.sep ⟨s.toArray⟩).length := by simp [Pk.flds]
  have hden : denL (strAV (Pk.flds s)) = (Lib.goFieldsP Pk.sep ⟨s.toArray⟩).map Value.string := by
    unfold Pk.flds strAV
    generalize Lib.goFieldsP Pk.sep ⟨s.toArray⟩ = L
    induction L with
    | nil => rfl
    | cons x L ih => simp only [List.map_cons, denL, AV.den]; rw [ih]
  rw [← hlen, ← hden] at hrow
  rw [← hlen] at he
  generalize Pk.flds s = l at *
  have hkept : MemOk [hpB F] w' := hw.keep hb.size fun k hk b hbk => hb.block b ((hw.holds k hk).lt hbk)
  have hF : ∀ b, (hpB F).foot b → b < w.heap.size := fun b hb' => (hw.holds (hpB F) (by simp)).lt hb'
  refine ⟨.raw (.slice (some ⟨A, 0, none⟩) l.length l.length), [hpB F, ⟨⟨A, 0, none⟩, strAV l, .row (.slice (some ⟨A, 0, none⟩) l.length l.length) 9 1 l.length⟩], ⟨.slice (some ⟨A, 0, none⟩) l.length l.length, l, rfl, rfl, MemFits.eq rfl⟩, he, ⟨fun k hk => ?_, ?_⟩, ⟨hb.os, hb.tape, hb.output, hb.size, fun k hk _ => hb.block k hk⟩, fun b ⟨k, hk, hkw, hkb⟩ => ?_, fun b ⟨k, hk, hkb⟩ => ?_⟩
  · simp only [List.mem_cons, List.not_mem_nil, or_false] at hk
    rcases hk with rfl | rfl
    · exact hkept.holds _ (by simp)
    · refine ⟨?_, rfl⟩
      obtain ⟨h1, h2⟩ := hrow
      refine ⟨h1, ?_⟩
      rcases h2 with h2 | ⟨g, cap, cur, h3, h4, h5⟩
      · exact .inl h2
      · exact .inr ⟨g, cap, cur, h3, Nat.zero_le _, h5⟩
  · simp only [List.pairwise_cons, List.mem_singleton, forall_eq, List.not_mem_nil, false_implies, implies_true, List.Pairwise.nil, and_true]
    intro _ b h1 h2
    have h3 := hF b h1
    simp only [Blk.foot, Blk.bn, Value.ownBlock, Option.some.injEq] at h2
    omega
  · simp only [List.mem_cons, List.not_mem_nil, or_false] at hk
    rcases hk with rfl | rfl
    · cases hkw
    · simp only [Blk.bn, Value.ownBlock, Option.some.injEq] at hkb
      exact .inr (by omega)
  · simp only [List.mem_cons, List.not_mem_nil, or_false] at hk
    rcases hk with rfl | rfl
    · exact .inl ⟨_, by simp, hkb⟩
    · simp only [Blk.foot, Blk.bn, Value.ownBlock, Option.some.injEq] at hkb
      exact .inr (by omega)
theorem fields7_c (F : Heap) (s : List UInt8) (hs : s.length ≤ 1000) : NCall Tryd.prog 101 [.str s, .fn 102 [] []] [hpB F] fun r m => ∃ F' u l, l = Pk.flds s ∧ F.le F' ∧ r = .hs u l.length ∧ m = [hpB F'] ∧ RowF F' 1 (fun x us => us = strV x) u l :=
  NCall.grow strV strAV (fun l => l = Pk.flds s) (fields7_raw F s hs) strAV_den (fun _ => rfl)
end Go.Proofs.YtokbckflleaplaaDoor
