/-
  Numbers read by the library, over what is read alone.
-/
import Derived.Test.YtdalneokgejmjaaDoorLib1
import Derived.Test.YtdalneokgejmjaaDoorNumP
namespace Go.Proofs.YtdalneokgejmjaaDoor
open Go.Sx Go.RowKit
set_option maxRecDepth 20000
set_option linter.unusedVariables false
/-- The library's two errors. -/
def ErrF (F : Heap) : Prop := (∃ u v, F.c ⟨3, 0, none⟩ (.iface u v)) ∧ ∃ u v, F.c ⟨4, 0, none⟩ (.iface u v)
theorem ErrF.mono {F G : Heap} (h : F.le G) (hF : ErrF F) : ErrF G := by
  obtain ⟨⟨u, v, h1⟩, u', v', h2⟩ := hF
  exact ⟨⟨u, v, h.c _ _ h1⟩, u', v', h.c _ _ h2⟩
theorem ncall_kept {P : Program} {f : FuncId} {args : List AV} {m : List Blk} {K : AV → Prop} (hen : ∀ (us : Array Value) (w : World), (callFunc f us).run P w = .ok (.enter f us) w)
    (h : ∀ w, MemOk m w → Calls P f (denL args).toArray w fun e w' => ∃ r, K r ∧ e = .returned r.den ∧ w'.os = w.os ∧ w'.tape = w.tape ∧ w'.output = w.output ∧ w.heap.size ≤ w'.heap.size ∧ ∀ k, k < w.heap.size → w'.heap[k]? = w.heap[k]?) : NCall P f args m fun r' m' => K r' ∧ m' = m := by
  rw [NCall_iff]
  refine ⟨hen, fun w hm => (h w hm).mono fun e w' ⟨r, hr, he, h1, h2, h3, h4, h5⟩ => ⟨r, m, ⟨hr, rfl⟩, he, ?_, ⟨h1, h2, h3, h4, fun k hk _ => h5 k hk⟩, fun _ hb => .inl hb, fun _ hb => .inl hb⟩⟩
  exact hm.keep h4 fun k hk b hb => h5 b ((hm.holds k hk).lt hb)
theorem atoiN_c (F : Heap) (hE : ErrF F) (s : List UInt8) (hs : s.length ≤ 100000) : NCall Tryd.prog 24 [.str s] [hpB F] fun r m => (∃ x, r = .tup [.int .i64 (Num.atv s), .raw x]) ∧ m = [hpB F] := by
  obtain ⟨⟨u1, v1, h1⟩, u2, v2, h2⟩ := hE
  refine ncall_kept (Go.Sx.enters_of Tryd.func24 rfl (by decide)) fun w hw => ?_
  have hc : ∀ a u, F.c a u → a.block < w.heap.size ∧ w.cell? a = some u := (hw.holds (hpB F) (by simp)).2.1
  have hsz : (⟨s.toArray⟩ : ByteArray).size = s.length := by simp [ByteArray.size]
  cases ha : Lib.atoiAll s
  · rename_i v
    refine (Tryd.strconv_Atoi_ok ⟨s.toArray⟩ (by rw [hsz]; omega) v (by simpa using ha) w).mono fun e w' ⟨he, hw'⟩ => ?_
    refine ⟨.tup [.int .i64 v, .raw .nilIface], ⟨.nilIface, by unfold Num.atv; rw [ha]⟩, by rw [he]; rfl, ?_⟩
    rcases hw' with rfl | ⟨t, rfl⟩
    · exact ⟨rfl, rfl, rfl, Nat.le_refl _, fun _ _ => rfl⟩
    · exact ⟨rfl, rfl, rfl, by rw [Lib.bytesWorld_size]; omega, fun k hk => Lib.bytesWorld_at_old w _ _ k hk⟩
  · refine (Any.strconv_Atoi_syntax Tryd.laysC172 ⟨s.toArray⟩ (by rw [hsz]; omega) (by simpa using ha) _ w (hc _ _ h1).2 (.inr ⟨_, _, rfl⟩)).mono fun e w' ⟨N, he, _, _, hb⟩ => ?_
    exact ⟨.tup [.int .i64 0, .raw (.iface _ (.pointer (some ⟨N, 0, none⟩)))], ⟨_, by unfold Num.atv; rw [ha]⟩, by rw [he]; rfl, hb.os, hb.tape, hb.output, hb.size, hb.block⟩
  · refine (Tryd.strconv_Atoi_range ⟨s.toArray⟩ (by rw [hsz]; omega) (by simpa using ha) _ w (hc _ _ h2).2 (.inr ⟨_, _, rfl⟩)).mono fun e w' ⟨N, he, _, _, hb⟩ => ?_
    exact ⟨.tup [.int .i64 (Lib.atoiSat s), .raw (.iface _ (.pointer (some ⟨N, 0, none⟩)))], ⟨_, by unfold Num.atv; rw [ha]⟩, by rw [he]; rfl, hb.os, hb.tape, hb.output, hb.size, hb.block⟩
end Go.Proofs.YtdalneokgejmjaaDoor
