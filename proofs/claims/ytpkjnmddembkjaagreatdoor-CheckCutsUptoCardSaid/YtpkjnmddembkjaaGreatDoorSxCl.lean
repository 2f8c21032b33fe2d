/-
  What is beyond is let go: the built-in clear on the rest of a row of one's own.
-/
import Derived.Test.YtpkjnmddembkjaaGreatDoorSxC
namespace Go.Sx
open Go.RowKit
section
variable {P : Program}
set_option linter.unusedVariables false
theorem zeroCells_eq (z : List AV) (n : Nat) (hz : 0 < z.length) : (Builtin.zeroCells (denL z).toArray n).toList = denL (repCells z n) := by
  unfold Builtin.zeroCells
  have h := rep_eq z n (.inl hz)
  rw [show (denL z).toArray.size = z.length by simp [denL_length]] at h ⊢
  rw [h]
theorem addr_zero (g off : Nat) : (⟨g, 0, none⟩ : Addr).add off = ⟨g, off, none⟩ := by
  unfold Addr.add
  split <;> simp_all
/-- Cells are stored into a row of one's own. -/
theorem row_store {m : List Blk} {w : World} (hm : MemOk m w) {j : Nat} {a : Addr} {cs : List AV} {v : Value} {t : TypeId} {sz n : Nat} (hj : m[j]? = some ⟨a, cs, .row v t sz n⟩) (hn : 0 < n) {off : Nat} {xs : List AV} (hlen : off + xs.length ≤ cs.length) (hones : ones xs = true) :
    ∃ w', (storeCells (a.add off) (denL xs)).run P w = .ok () w' ∧ MemOk (m.set j ⟨a, cs.take off ++ xs ++ cs.drop (off + xs.length), .row v t sz n⟩) w' ∧ Fr (wrs m) w w' ∧ Fresh (own m) w (m.set j ⟨a, cs.take off ++ xs ++ cs.drop (off + xs.length), .row v t sz n⟩) := by
  have hmem := List.mem_of_getElem? hj
  have hh := hm.holds _ hmem
  have hwr : (⟨a, cs, .row v t sz n⟩ : Blk).wr = true := rfl
  have hbk : ∀ F, (⟨a, cs, .row v t sz n⟩ : Blk).kind ≠ .heap F := fun F e => by cases e
  unfold Blk.holds at hh
  obtain ⟨⟨h5, h6⟩, h7⟩ := hh
  rcases h6 with ⟨hv, h0⟩ | ⟨g, cap, cur, hv, hbg, hg, hc1, hc2, hc3, hc4⟩
  · exact absurd h0 (by omega)
  · dsimp only at h5 h7 hc4
    have hba : a = ⟨g, 0, none⟩ := by rw [h7, hv]; rfl
    have hbn : (⟨a, cs, .row v t sz n⟩ : Blk).bn = some g := by simp [Blk.bn, hv, Value.ownBlock]
    have hlc : cs.length ≤ cur.size := by
      have := congrArg List.length hc4
      rw [denL_length] at h5
      simp [denL_length] at this
      omega
    have hst := run_storeCells_at P g off t (denL xs) 0 cur w hg (by rw [denL_length]; omega) (ones_spec hones)
    have hadd : a.add off = ⟨g, off, none⟩ := by rw [hba]; exact addr_zero g off
    refine ⟨w.setRow g (cur.toList.take (off + 0) ++ denL xs ++ cur.toList.drop (off + 0 + (denL xs).length)).toArray, ?_, ?_, ?_, ?_⟩
    · rw [hadd]; exact hst
    · refine hm.set (by simp) hj hwr (fun c hc hlt => setRow_other w g c _ (fun e => hc (by rw [hbn, e]))) ?_ hbk (.inr (.inl ?_))
      · unfold Blk.holds
        dsimp only
        have hl2 : (cs.take off ++ xs ++ cs.drop (off + xs.length)).length = cs.length := by simp; omega
        have hcs : (denL cs).length = n * sz := h5
        have e1 : denL (cs.take off ++ xs ++ cs.drop (off + xs.length)) = (denL cs).take off ++ denL xs ++ (denL cs).drop (off + (denL xs).length) := by simp [denL_eq]
        have e2 : cur.toList = denL cs ++ cur.toList.drop cs.length := by
          have : cur.toList.take cs.length = denL cs := by rw [← denL_length, h5]; exact hc4
          rw [← this]; exact (List.take_append_drop _ _).symm
        refine ⟨⟨by rw [denL_length, hl2, ← denL_length]; exact h5, .inr ⟨g, cap, _, hv, hbg, setRow_heap w g _ _ t _ hg, hc1, hc2, ?_, ?_⟩⟩, h7⟩
        · simp [denL_length]; omega
        · rw [e1, ← hcs, Nat.add_zero, e2]
          exact splice_take _ _ _ _ (by rw [denL_length, denL_length]; exact hlen)
      · rfl
    · refine (Fr.refl (wrs m) w).then (Fr.setRow w g _) fun i hi => ?_
      subst hi
      exact .inl ⟨_, hmem, hwr, hbn⟩
    · exact (Fresh.self _ _).set hbk fun c hc => .inl ⟨_, hmem, hwr, hc⟩
/-- The rest of a row of one's own is cleared. -/
theorem NMap.clear {m : List Blk} {K : AV → List Blk → Prop} {j : Nat} {a : Addr} {cs : List AV} {v : Value} {st e t ty : TypeId} {sz n i : Nat} {z : AV} (hj : m[j]? = some ⟨a, cs, .row v t sz n⟩) (hu : P.underlying st = some (.slice e)) (hz : zeroT P e = some z) (hzl : z.cells.length = sz) (h0 : 0 < sz) (ho : ones z.cells = true)
    (hcs : cs.length = n * sz) (hi : i < n) (hK : setBlkK m j ⟨a, cs.take (i * sz) ++ repCells z.cells (n - i), .row v t sz n⟩ (K (.tup []))) : NMap P (Builtin.clear_ #[st] ty #[cutSl v sz i n]) m K := by
  have hK := (setBlkK_spec hK).2
  rw [NMap_iff]
  intro w hm
  have hh := hm.holds _ (List.mem_of_getElem? hj)
  unfold Blk.holds at hh
  obtain ⟨⟨h5, h6⟩, h7⟩ := hh
  rcases h6 with ⟨hv, h0⟩ | ⟨g, cap, cur, hv, hbg, hg, hc1, hc2, hc3, hc4⟩
  · exact absurd h0 (by omega)
  dsimp only at h7
  have hones : ones (repCells z.cells (n - i)) = true := by
    have hap : ∀ xs ys : List AV, ones xs = true → ones ys = true → ones (xs ++ ys) = true := fun xs ys hx hy => by
      induction xs with
      | nil => exact hy
      | cons x xs ih => cases x <;> simp_all [ones]
    generalize n - i = k
    induction k with
    | zero => rfl
    | succ k ih => exact hap _ _ ho ih
  have hrl : (repCells z.cells (n - i)).length = (n - i) * sz := by rw [repCells_length, hzl]
  have hmul : i * sz + (n - i) * sz = n * sz := by rw [← Nat.add_mul]; congr 1; omega
  obtain ⟨w', h1, h2, h3, h4⟩ := row_store (P := P) hm hj (by omega) (off := i * sz) (xs := repCells z.cells (n - i)) (by omega) hones
  have hd : cs.drop (i * sz + (repCells z.cells (n - i)).length) = [] := by rw [List.drop_eq_nil_iff]; omega
  rw [hd, List.append_nil] at h2 h4
  refine ⟨.tup [], _, w', ?_, hK, h2, h3, h4⟩
  have hba : a = ⟨g, 0, none⟩ := by rw [h7, hv]; rfl
  have hcut : cutSl v sz i n = .slice (some (a.add (i * sz))) (n - i) (cap - i) := by
    rw [hv, hba]
    unfold cutSl slOf
    dsimp only
    rw [if_neg (by omega)]
    rfl
  rw [hcut]
  obtain ⟨k, hk⟩ : ∃ k, n - i = k + 1 := ⟨n - i - 1, by omega⟩
  have hzv := zeroT_run (P := P) hz w
  rw [← zeroCells_eq _ _ (by omega)] at h1
  rw [hk] at h1 ⊢
  simp only [Builtin.clear_, List.getElem?_toArray, List.getElem?_cons_zero, Sem.run_bind, run_underlying hu, Result.andThen_ok, hzv, den_cells, h1, Sem.run_pure]
  rfl
end
end Go.Sx

