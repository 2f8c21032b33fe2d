/-
  The evaluator is sound: what it asks for, shown, gives the function's contract.
-/
import Derived.Test.YtngodakgbldlpaaGreatDoorTSxA
import Derived.Laws.StructEq
import Derived.ChangeKeysEq
import Derived.Maps.AppendAt
import Derived.Deep.LoopGhost
import Derived.Deep.Quiet
import Derived.Scope
import Derived.LoopN
import Derived.Orders
import Derived.StillTail
namespace Go.Sx
open Go.RowKit

theorem denL_eq (xs : List AV) : denL xs = xs.map AV.den := by
  induction xs with
  | nil => rfl
  | cons x xs ih => simp [denL, ih]
theorem denL_length (xs : List AV) : (denL xs).length = xs.length := by simp [denL_eq]
theorem denL_append (xs ys : List AV) : denL (xs ++ ys) = denL xs ++ denL ys := by simp [denL_eq]

theorem ofCell_den (v : Value) : (ofCell v).den = v := by
  cases v <;> simp [ofCell, AV.den]
theorem ofCellH_den (v : Value) : (ofCellH v).den = v := by
  cases v <;> simp [ofCellH, AV.den, slOf]
theorem ofVal_den (v : Value) : (ofVal v).den = v := by
  cases v with
  | agg cs =>
    simp only [ofVal, AV.den, denL_eq, List.map_map]
    have : (cs.toList.map (AV.den ∘ ofCell)) = cs.toList := by
      rw [show AV.den ∘ ofCell = id from funext ofCell_den]; simp
    rw [this]
  | _ => simp only [ofVal]; exact ofCell_den _

theorem den_cells (x : AV) : x.den.cells = (denL x.cells).toArray := by
  cases x with
  | raw v => cases v <;> simp [AV.cells, AV.den, Value.cells, denL_eq, Function.comp_def]
  | sl i v n => cases v <;> simp [AV.cells, AV.den, denL, Value.cells, slOf]
  | view i v sz lo hi => cases v <;> simp [AV.cells, AV.den, denL, Value.cells, cutSl, slOf]
  | hs v n => cases v <;> simp [AV.cells, AV.den, denL, Value.cells, slOf]
  | _ => simp [AV.cells, AV.den, denL, Value.cells, undef]

theorem NV_iff {v : Int} {K : Int → Prop} : NV v K ↔ K v := by unfold NV; exact Iff.rfl
theorem NS_iff {v : List UInt8} {K : List UInt8 → Prop} : NS v K ↔ K v := by unfold NS; exact Iff.rfl
theorem NN_iff {v : Nat} {K : Nat → Prop} : NN v K ↔ K v := by unfold NN; exact Iff.rfl
theorem NIf_iff {b : Bool} {p q : Prop} : NIf b p q ↔ (b = true → p) ∧ (b = false → q) := by unfold NIf; exact Iff.rfl
theorem NH_iff {p q : Prop} : NH p q ↔ p ∧ q := by unfold NH; exact Iff.rfl
theorem NBytes_iff {cs : List AV} {K : List UInt8 → Prop} : NBytes cs K ↔ ∃ l : List UInt8, denL cs = l.map (fun b => Value.int .u8 b.toNat) ∧ K l := by unfold NBytes; exact Iff.rfl
theorem NMap_iff {P : Program} {s : Sem Value} {m : List Blk} {K : AV → List Blk → Prop} : NMap P s m K ↔
  ∀ w, MemOk m w → ∃ r m' w', s.run P w = .ok r.den w' ∧ K r m' ∧ MemOk m' w' ∧ Fr (wrs m) w w' ∧ Fresh (own m) w m' := by unfold NMap; exact Iff.rfl
theorem NCall_iff {P : Program} {f : FuncId} {args : List AV} {m : List Blk} {K : AV → List Blk → Prop} : NCall P f args m K ↔
  (∀ (as : Array Value) (w : World), (callFunc f as).run P w = .ok (.enter f as) w) ∧
  ∀ w, MemOk m w → Calls P f (denL args).toArray w fun e w' => ∃ r m', K r m' ∧ e = .returned r.den ∧ MemOk m' w' ∧ Fr (wrs m) w w' ∧ Fresh (own m) w m' := by unfold NCall; exact Iff.rfl
theorem NLd_iff {F : Heap} {a : Addr} {K : Value → Prop} : NLd F a K ↔ ∃ u, F.c a u ∧ K u := by unfold NLd; exact Iff.rfl
theorem NRd_iff {F : Heap} {a : Addr} {n : Nat} {K : List AV → Prop} : NRd F a n K ↔ ∃ cs, cs.length = n ∧ CellsF F a 0 (denL cs) ∧ K cs := by unfold NRd; exact Iff.rfl
/-! ### Slots -/
theorem getK_spec {sl : List AV} {n : Nat} {k : AV → Prop} (h : getK sl n k) : ∃ x, sl[n]? = some x ∧ x ≠ .any ∧ k x := by
  induction sl generalizing n with
  | nil => exact h.elim
  | cons y sl ih =>
    cases n with
    | zero =>
      refine ⟨y, rfl, ?_⟩
      simp only [getK] at h
      split at h
      · exact h.elim
      · rename_i hy; exact ⟨hy, h⟩
    | succ n => obtain ⟨x, h1, h2⟩ := ih h; exact ⟨x, by simpa using h1, h2⟩
theorem setK_spec {sl : List AV} {n : Nat} {v : AV} {k : List AV → Prop} (h : setK sl n v k) : n < sl.length ∧ k (sl.set n v) := by
  induction sl generalizing n k with
  | nil => exact h.elim
  | cons y sl ih =>
    cases n with
    | zero => exact ⟨by simp, h⟩
    | succ n => have := ih h; exact ⟨by simpa using this.1, this.2⟩
theorem SlotsOk.get {sl : List AV} {tmps : Array Value} (hs : SlotsOk sl tmps) {n : Nat} {k : AV → Prop} (h : getK sl n k) : ∃ x, k x ∧ tmps[n]? = some x.den := by
  obtain ⟨x, h1, h2, h3⟩ := getK_spec h
  refine ⟨x, h3, ?_⟩
  have hlt : n < tmps.size := by rw [← hs.1]; exact (List.getElem?_eq_some_iff.1 h1).1
  have hv : tmps[n]? = some tmps[n] := by simp [hlt]
  rcases hs.2 n x _ h1 hv with h | h
  · exact (h2 h).elim
  · rw [hv, h]
theorem SlotsOk.set {sl : List AV} {tmps : Array Value} (hs : SlotsOk sl tmps) (n : Nat) (v : AV) : SlotsOk (sl.set n v) (tmps.setIfInBounds n v.den) := by
  refine ⟨by simpa using hs.1, fun i x u hx hu => ?_⟩
  rw [List.getElem?_set] at hx
  rw [Array.getElem?_setIfInBounds] at hu
  split at hx
  · rename_i hi
    subst hi
    split at hx
    · rename_i hlt
      rw [if_pos rfl, if_pos (by rw [← hs.1]; exact hlt)] at hu
      injection hx with hx; injection hu with hu
      subst hx; subst hu
      exact .inr rfl
    · cases hx
  · rename_i hi
    rw [if_neg hi] at hu
    exact hs.2 i x u hx hu
theorem constK_spec {v : Value} {k : AV → Prop} (h : constK v k) : ∃ x, k x ∧ v = x.den := by
  unfold constK at h
  split at h
  case h_4 cs =>
    refine ⟨_, h, ?_⟩
    have := ofVal_den (.agg ⟨cs⟩)
    simpa [ofVal, AV.den] using this.symm
  all_goals exact ⟨_, h, rfl⟩
theorem evK_spec {sl : List AV} {a : Act} (hs : SlotsOk sl a.tmps) {o : Operand} {k : AV → Prop} (h : evK sl o k) : ∃ x, k x ∧ a.eval o = x.den := by
  cases o with
  | tmp t =>
    obtain ⟨x, h1, h2⟩ := hs.get h
    exact ⟨x, h1, by simp [Act.eval, h2]⟩
  | const v => exact constK_spec h
  | global g => exact ⟨_, h, rfl⟩
  | func f => exact ⟨_, h, rfl⟩
theorem evLK_spec {sl : List AV} {a : Act} (hs : SlotsOk sl a.tmps) {os : List Operand} {k : List AV → Prop} (h : evLK sl os k) : ∃ xs, k xs ∧ os.map a.eval = denL xs := by
  induction os generalizing k with
  | nil => exact ⟨[], h, rfl⟩
  | cons o os ih =>
    obtain ⟨x, h1, h2⟩ := evK_spec hs h
    obtain ⟨xs, h3, h4⟩ := ih h1
    exact ⟨x :: xs, h3, by simp [denL, h2, h4]⟩

/-! ### Blocks -/
theorem blkK_spec {m : List Blk} {n : Nat} {k : Blk → Prop} (h : blkK m n k) : ∃ b, m[n]? = some b ∧ k b := by
  induction m generalizing n with
  | nil => exact h.elim
  | cons y m ih =>
    cases n with
    | zero => exact ⟨y, rfl, h⟩
    | succ n => obtain ⟨x, h1, h2⟩ := ih h; exact ⟨x, by simpa using h1, h2⟩
theorem setBlkK_spec {m : List Blk} {n : Nat} {v : Blk} {k : List Blk → Prop} (h : setBlkK m n v k) : n < m.length ∧ k (m.set n v) := by
  induction m generalizing n k with
  | nil => exact h.elim
  | cons y m ih =>
    cases n with
    | zero => exact ⟨by simp, h⟩
    | succ n => have := ih h; exact ⟨by simpa using this.1, this.2⟩
theorem lenLK_from {m : List Blk} {K : Nat → Prop} : ∀ {ns : List Nat} {k : Nat}, (∀ j n, ns[j]? = some n → n = k + j) → lenLK m ns K → K (k + m.length) := by
  induction m with
  | nil =>
    intro ns k hns h
    cases ns with
    | nil => exact h.elim
    | cons n ns => have := hns 0 n rfl; subst this; exact h
  | cons y m ih =>
    intro ns k hns h
    cases ns with
    | nil => exact h.elim
    | cons n ns =>
      have := ih (ns := ns) (k := k + 1) (fun j x hx => by have := hns (j + 1) x (by simpa using hx); omega) h
      rw [List.length_cons, show k + (m.length + 1) = k + 1 + m.length by omega]
      exact this
theorem lenLK_spec {m : List Blk} {K : Nat → Prop} (h : lenLK m lits K) : K m.length := by
  have := lenLK_from (k := 0) (ns := lits) (fun j n hn => by
    have hl : j < 41 := (List.getElem?_eq_some_iff.1 hn).1
    have : ∀ j, j < 41 → lits[j]? = some j := by decide
    rw [this j hl] at hn
    injection hn with hn; omega) h
  simpa using this
theorem cellFK_spec {x : AV} {K : AV → Prop} (h : cellFK x K) : K x := by
  unfold cellFK at h
  split at h <;> exact h
theorem forceK_spec {cs : List AV} {K : List AV → Prop} (h : forceK cs K) : K cs := by
  induction cs generalizing K with
  | nil => exact h
  | cons x xs ih => exact ih (K := fun ys => K (x :: ys)) (cellFK_spec h)
theorem boxK_spec {x : AV} {K : List AV → Prop} (h : boxK x K) : K x.cells := by
  unfold boxK at h
  unfold AV.cells
  split at h
  · exact h
  · exact h
  · exact h
theorem appK_spec {m : List Blk} {b : Blk} {k : List Blk → Prop} (h : appK m b k) : k (m ++ [b]) := by
  induction m generalizing k with
  | nil => exact h
  | cons y m ih => exact ih (k := fun ys => k (y :: ys)) h
theorem cellsK_spec {cs : List AV} {o n : Nat} {k : List AV → Prop} (h : cellsK cs o n k) : o + n ≤ cs.length ∧ k ((cs.drop o).take n) := by
  induction cs generalizing o n k with
  | nil =>
    cases o <;> cases n <;> simp only [cellsK] at h
    · exact ⟨by simp, h⟩
  | cons y cs ih =>
    cases o with
    | zero =>
      cases n with
      | zero => exact ⟨by simp, h⟩
      | succ n => have := ih h; exact ⟨by simp; omega, by simpa using this.2⟩
    | succ o => have := ih (o := o) (by simpa only [cellsK] using h); exact ⟨by simp; omega, by simpa using this.2⟩
theorem putK_spec {cs : List AV} {o : Nat} {vs : List AV} {k : List AV → Prop} (h : putK cs o vs k) : o + vs.length ≤ cs.length ∧ k (cs.take o ++ vs ++ cs.drop (o + vs.length)) := by
  induction cs generalizing o vs k with
  | nil =>
    cases o <;> cases vs <;> simp only [putK] at h
    · exact ⟨by simp, by simpa using h⟩
  | cons y cs ih =>
    cases o with
    | zero =>
      cases vs with
      | nil => exact ⟨by simp, by simpa [putK] using h⟩
      | cons v vs =>
        have := ih (o := 0) (vs := vs) (by simpa only [putK] using h)
        exact ⟨by simp at *; omega, by simpa using this.2⟩
    | succ o =>
      have := ih (o := o) (vs := vs) (by simpa only [putK] using h)
      refine ⟨by simp; omega, ?_⟩
      have h2 := this.2
      rw [show o + 1 + vs.length = (o + vs.length) + 1 from by omega]
      simpa using h2
theorem nthK_spec {cs : List AV} {n : Nat} {k : AV → Prop} (h : nthK cs n k) : ∃ x, cs[n]? = some x ∧ k x := by
  induction cs generalizing n with
  | nil => exact h.elim
  | cons y cs ih =>
    cases n with
    | zero => exact ⟨y, rfl, h⟩
    | succ n => obtain ⟨x, h1, h2⟩ := ih h; exact ⟨x, by simpa using h1, h2⟩


/-! ### Memory -/
theorem block_of_add (a : Addr) (n : Nat) : (a.add n).block = a.block := by unfold Addr.add; split <;> rfl
theorem add_of_add (a : Addr) (i j : Nat) : (a.add i).add j = a.add (i + j) := by
  unfold Addr.add
  by_cases hi : i = 0 <;> by_cases hj : j = 0 <;> simp [hi, hj, Nat.add_assoc]

theorem Blk.holds.cell {b : Blk} {w : World} (h : b.holds w) {j : Nat} {x : AV} (hx : b.cs[j]? = some x) : w.cell? (b.a.add j) = some x.den := by
  have hd : (denL b.cs)[j]? = some x.den := by simp [denL_eq, hx]
  unfold Blk.holds at h
  split at h
  · obtain ⟨h1, h2, h3⟩ := h
    have e : b.a.add j = ⟨b.a.block, j, none⟩ := by
      cases hba : b.a with
      | mk bb oo ss =>
        rw [hba] at h1 h2
        simp only at h1 h2
        subst h1; subst h2
        unfold Addr.add; split <;> simp_all
    rw [e, cell_of_row w _ j _ _ _ h3]
    simpa using hd
  · rename_i v t sz n _
    obtain ⟨h1, h2⟩ := h
    rcases h1.2 with ⟨rfl, rfl⟩ | ⟨g, cap, cur, rfl, _, hg, _⟩
    · have := h1.1
      simp at this
      rw [this] at hd; simp at hd
    · rw [h2]
      exact h1.cells (g := g) rfl j _ hd
  · rename_i v sz n _
    obtain ⟨h1, A, cap, rfl, _, _, h2⟩ := h
    have hn : 0 < n := by
      rcases Nat.eq_zero_or_pos n with h | h
      · subst h
        simp at h1
        rw [h1] at hx; simp at hx
      · exact h
    exact (h2 hn).2.2 j _ hd
  · rw [h.1] at hx; simp at hx
  · rw [h.1] at hx; simp at hx
  · rw [h.1] at hx; simp at hx

theorem MemOk.cell {m : List Blk} {w : World} (hm : MemOk m w) {i : Nat} {b : Blk} (hb : m[i]? = some b) {j : Nat} {x : AV} (hx : b.cs[j]? = some x) : w.cell? (b.a.add j) = some x.den :=
  (hm.holds b (List.mem_of_getElem? hb)).cell hx

theorem run_isAgg {P : Program} {t : TypeId} {b : Bool} (h : aggT P t = some b) (w : World) : (isAgg t).run P w = .ok b w := by
  unfold aggT at h
  split at h <;> simp at h <;> subst h
  iterate 2
    · rename_i hu; simp [isAgg, run_underlying hu]
  · rename_i x h1 h2 hu
    unfold isAgg
    rw [Sem.run_bind, run_underlying hu]
    simp
theorem litO_eq (n : Nat) : litO n = some n := by unfold litO; split <;> rfl
theorem run_sizeOf {P : Program} {t : TypeId} {s : Nat} (h : szT P t = some s) (w : World) : (sizeOf t).run P w = .ok s w := by
  unfold szT at h
  split at h <;> simp [litO_eq] at h
  rename_i i hi
  subst h
  simp [sizeOf, typeInfo, hi]

inductive PartIs (P : Program) (t : TypeId) (cs : List AV) (off : Nat) : AV → Prop where
  | many (s : Nat) : aggT P t = some true → szT P t = some s → off + s ≤ cs.length → PartIs P t cs off (.agg ((cs.drop off).take s))
  | one (x : AV) : aggT P t = some false → cs[off]? = some x → PartIs P t cs off x
theorem partK_spec {P : Program} {t : TypeId} {cs : List AV} {off : Nat} {K : AV → Prop} (h : partK P t cs off K) : ∃ x, K x ∧ PartIs P t cs off x := by
  unfold partK at h
  split at h
  · rename_i s h1 h2
    have := cellsK_spec h
    exact ⟨_, this.2, .many s h1 h2 this.1⟩
  · rename_i h1
    obtain ⟨x, h2, h3⟩ := nthK_spec h
    exact ⟨x, h3, .one x h1 h2⟩
  · exact h.elim

theorem PartIs.runPart {P : Program} {t : TypeId} {cs : List AV} {off : Nat} {x : AV} (h : PartIs P t cs off x) (w : World) : (Go.part t (denL cs).toArray off).run P w = .ok x.den w := by
  cases h with
  | many s h1 h2 h3 =>
    unfold Go.part
    rw [Sem.run_bind, run_isAgg h1]
    simp [run_sizeOf h2, AV.den, denL_eq]

  | one x h1 h2 =>
    unfold Go.part
    rw [Sem.run_bind, run_isAgg h1]
    simp [denL_eq, h2]
theorem PartIs.load {P : Program} {t : TypeId} {m : List Blk} {w : World} (hm : MemOk m w) {i : Nat} {b : Blk} (hb : m[i]? = some b) {off : Nat} {x : AV} (h : PartIs P t b.cs off x) :
    (loadVar t (b.a.add off)).run P w = .ok x.den w := by
  cases h with
  | many s h1 h2 h3 =>
    unfold loadVar
    rw [Sem.run_bind, run_isAgg h1]
    simp only [Result.andThen_ok, if_true, Sem.run_bind, run_sizeOf h2]
    have hl : ((denL b.cs).drop off |>.take s).length = s := by simp [denL_length]; omega
    have hr := run_loadCells_list (P := P) w (b.a.add off) ((denL b.cs).drop off |>.take s) (fun j v hv => by
      rw [add_of_add]
      rw [List.getElem?_take] at hv
      split at hv
      · rw [List.getElem?_drop, denL_eq, List.getElem?_map] at hv
        cases hx : b.cs[off + j]? with
        | none => rw [hx] at hv; simp at hv
        | some y => rw [hx] at hv; simp at hv; rw [← hv]; exact hm.cell hb hx
      · cases hv)
    rw [hl] at hr
    rw [hr]
    simp [AV.den, denL_eq]
  | one x h1 h2 =>
    unfold loadVar
    rw [Sem.run_bind, run_isAgg h1]
    simp [hm.cell hb h2]

theorem heapK_spec {m : List Blk} {K : Heap → Prop} (h : heapK m K) : ∃ F, K F ∧ ∀ w, MemOk m w → ∀ a u, F.c a u → a.block < w.heap.size ∧ w.cell? a = some u := by
  have : ∃ F, K F ∧ ∃ b ∈ m, b.kind = .heap F := by
    induction m with
    | nil => exact h.elim
    | cons b m ih =>
      unfold heapK at h
      split at h
      · rename_i F hk; exact ⟨F, h, b, List.mem_cons_self .., hk⟩
      · obtain ⟨F, h1, b', h2, h3⟩ := ih h; exact ⟨F, h1, b', List.mem_cons_of_mem _ h2, h3⟩
  obtain ⟨F, h1, b, h2, h3⟩ := this
  refine ⟨F, h1, fun w hm => ?_⟩
  have := hm.holds b h2
  unfold Blk.holds at this
  rw [h3] at this
  exact this.2.1
theorem cellHK_spec {u : Value} {K : AV → Prop} (h : cellHK u K) : K (ofCellH u) := by
  unfold cellHK at h
  unfold ofCellH
  split at h <;> first | exact h | (split <;> simp_all)
theorem addK_eq (o i : Nat) (K : Nat → Prop) : addK o i K = K (o + i) := by unfold addK; split <;> simp
theorem seqO_eq (n : Nat) : seqO n = List.range n := by unfold seqO; split <;> rfl
theorem ldsK_spec' {F : Heap} {a : Addr} {off : Nat} : ∀ {is : List Nat} {K : List AV → Prop}, ldsK F a off is K → ∃ xs, xs.length = is.length ∧ K xs ∧ ∀ (j : Nat) (x : AV) (i : Nat), xs[j]? = some x → is[j]? = some i → F.c (a.add (off + i)) x.den
  | [], K, h => ⟨[], rfl, h, fun j x i hx => by simp at hx⟩
  | i :: is, K, h => by
    simp only [ldsK, NLd_iff, addK_eq] at h
    obtain ⟨u, h1, h2⟩ := h
    obtain ⟨xs, h3, h4, h5⟩ := ldsK_spec' (cellHK_spec h2)
    refine ⟨ofCellH u :: xs, by simp [h3], h4, fun j x i' hx hi => ?_⟩
    cases j with
    | zero => simp at hx hi; subst hx; subst hi; rw [ofCellH_den]; exact h1
    | succ j => exact h5 j x i' (by simpa using hx) (by simpa using hi)
theorem ldsK_spec {F : Heap} {a : Addr} {off : Nat} {s : Nat} {K : List AV → Prop} (h : ldsK F a off (seqO s) K) : ∃ xs, xs.length = s ∧ K xs ∧ ∀ (j : Nat) (x : AV), xs[j]? = some x → F.c (a.add (off + j)) x.den := by
  rw [seqO_eq] at h
  obtain ⟨xs, h1, h2, h3⟩ := ldsK_spec' h
  rw [List.length_range] at h1
  refine ⟨xs, h1, h2, fun j x hx => h3 j x j hx ?_⟩
  have : j < s := by rw [← h1]; exact (List.getElem?_eq_some_iff.1 hx).1
  simp [this]
theorem CellsF.at_ {F : Heap} {a : Addr} : ∀ {o : Nat} {vs : List Value}, CellsF F a o vs → ∀ j u, vs[j]? = some u → F.c (a.add (o + j)) u
  | o, v :: vs, h, 0, u, hu => by simp at hu; subst hu; exact h.1
  | o, v :: vs, h, j + 1, u, hu => by
    have := CellsF.at_ h.2 j u (by simpa using hu)
    rw [show o + (j + 1) = o + 1 + j from by omega]
    exact this

end Go.Sx

namespace Go.Sx
open Go.RowKit
section
variable {P : Program}
theorem sameKind_eq {k k' : IntKind} (h : sameKind k k' = true) : k = k' := by cases k <;> cases k' <;> simp [sameKind] at h <;> rfl
theorem NFlat_iff {t : TypeId} {q : Prop} : NFlat P t q ↔ (flatT P 8 t = true ∧ P.eqGuardType P.depth t = false) ∧ q := by unfold NFlat; exact Iff.rfl

def ShapeT (P : Program) (t : TypeId) (x : AV) (xs : List AV) : Prop := (aggT P t = some true ∧ x = .agg xs) ∨ (aggT P t = some false ∧ xs = [x])

theorem eqCell_i {x y : AV} {b : Bool} (h : eqCell .i x y = some b) : ∃ k a c, x = .int k a ∧ y = .int k c ∧ b = decide (a = c) := by
  unfold eqCell at h
  split at h
  · split at h
    · rename_i hk
      have := sameKind_eq hk
      subst this
      injection h with h
      exact ⟨_, _, _, rfl, rfl, h.symm⟩
    · cases h
  · contradiction
  · contradiction
  · cases h
theorem eqCell_b {x y : AV} {b : Bool} (h : eqCell .b x y = some b) : ∃ a c, x = .bool a ∧ y = .bool c ∧ b = (a == c) := by
  unfold eqCell at h
  split at h
  · contradiction
  · injection h with h; exact ⟨_, _, rfl, rfl, h.symm⟩
  · contradiction
  · cases h
theorem eqCell_s {x y : AV} {b : Bool} (h : eqCell .s x y = some b) : ∃ a c, x = .str a ∧ y = .str c ∧ b = decide (a = c) := by
  unfold eqCell at h
  split at h
  · contradiction
  · contradiction
  · injection h with h; exact ⟨_, _, rfl, rfl, h.symm⟩
  · cases h
theorem eqCells_length : ∀ {ls : List Leaf} {xs ys : List AV} {b : Bool}, eqCells ls xs ys = some b → xs.length = ls.length ∧ ys.length = ls.length
  | [], [], [], _, _ => ⟨rfl, rfl⟩
  | l :: ls, x :: xs, y :: ys, b, h => by
    simp only [eqCells] at h
    split at h
    · rename_i a c _ h2
      have := eqCells_length h2
      simp [this.1, this.2]
    · cases h
  | [], _ :: _, _, _, h => by simp [eqCells] at h
  | [], [], _ :: _, _, h => by simp [eqCells] at h
  | _ :: _, [], _, _, h => by simp [eqCells] at h
  | _ :: _, _ :: _, [], _, h => by simp [eqCells] at h

theorem eqCells_append {l1 l2 : List Leaf} : ∀ {xs ys : List AV} {b : Bool}, eqCells (l1 ++ l2) xs ys = some b →
    ∃ b1 b2, eqCells l1 (xs.take l1.length) (ys.take l1.length) = some b1 ∧ eqCells l2 (xs.drop l1.length) (ys.drop l1.length) = some b2 ∧ b = (b1 && b2) := by
  induction l1 with
  | nil => intro xs ys b h; exact ⟨true, b, by simp [eqCells], by simpa using h, by simp⟩
  | cons l l1 ih =>
    intro xs ys b h
    cases xs with
    | nil => simp [eqCells] at h
    | cons x xs =>
      cases ys with
      | nil => simp [eqCells] at h
      | cons y ys =>
        simp only [List.cons_append, eqCells] at h
        split at h
        · rename_i a c h1 h2
          obtain ⟨b1, b2, h3, h4, h5⟩ := ih h2
          injection h with h
          refine ⟨a && b1, b2, ?_, by simpa using h4, ?_⟩
          · simp [eqCells, h1, h3]
          · rw [← h, h5, Bool.and_assoc]
        · cases h

theorem flat_size : ∀ (n : Nat) (t : TypeId) (ls : List Leaf), leafT P n t = some ls → flatT P n t = true → szT P t = some ls.length
  | 0, _, _, h, _ => by simp [leafT] at h
  | n + 1, t, ls, h, hf => by
    unfold leafT at h
    unfold flatT at hf
    cases hu : P.underlying t with
    | none => simp [hu] at h
    | some kd =>
      cases hs : szT P t with
      | none => simp [hu, hs] at hf
      | some s =>
        rw [hu] at h
        rw [hu, hs] at hf
        cases kd <;> simp only [Option.some.injEq, reduceCtorEq] at h
        case bool => subst h; simp at hf; simp [hf]
        case int => subst h; simp at hf; simp [hf]
        case string => subst h; simp at hf; simp [hf]
        case struct fs =>
          simp only [Bool.and_eq_true, beq_iff_eq] at hf
          have key : ∀ (fs : List Field) (o : Nat) (ls : List Leaf), leafF (leafT P n) fs = some ls → flatF P (flatT P n) fs o = some s → s = o + ls.length := by
            intro fs
            induction fs with
            | nil => intro o ls h1 h2; simp [leafF] at h1; simp [flatF] at h2; subst h1; simp [h2]
            | cons f fs ih =>
              intro o ls h1 h2
              simp only [leafF] at h1
              split at h1
              · rename_i x y hx hy
                injection h1 with h1
                subst h1
                simp only [flatF] at h2
                split at h2
                · rename_i s1 hb hs1
                  have := flat_size n f.type x hx hb
                  rw [this] at hs1
                  injection hs1 with hs1
                  split at h2
                  · have := ih _ _ hy h2
                    rw [this, ← hs1, List.length_append]; omega
                  · cases h2
                · cases h2
              · cases h1
          have := key _ _ _ h hf.2
          rw [this]; simp
        case array len e =>
          split at h
          · rename_i l hl
            injection h with h
            subst h
            simp only [Bool.and_eq_true] at hf
            have := flat_size n e l hl hf.1
            rw [this] at hf
            have h2 := hf.2
            simp only [beq_iff_eq] at h2
            rw [← h2]
            have hr : ∀ m, (repLeaf l m).length = m * l.length := by
              intro m
              induction m with
              | zero => simp [repLeaf]
              | succ m ih => simp [repLeaf, ih, Nat.add_mul]; omega
            rw [hr]
          · cases h

theorem flat_agg {n : Nat} {t : TypeId} (h : flatT P n t = true) : ∃ b, aggT P t = some b := by
  cases n with
  | zero => simp [flatT] at h
  | succ n =>
    unfold flatT at h
    unfold aggT
    cases hu : P.underlying t with
    | none => simp [hu] at h
    | some kd => cases kd <;> simp

theorem flat_part {n : Nat} {t : TypeId} {ls : List Leaf} (hl : leafT P n t = some ls) (hf : flatT P n t = true) {cs : List AV} {off : Nat} (hlen : off + ls.length ≤ cs.length) :
    ∃ x, PartIs P t cs off x ∧ ShapeT P t x ((cs.drop off).take ls.length) := by
  have hs := flat_size n t ls hl hf
  obtain ⟨b, hb⟩ := flat_agg hf
  cases b with
  | true => exact ⟨_, .many _ hb hs hlen, .inl ⟨hb, rfl⟩⟩
  | false =>
    have h1 : ls.length = 1 := by
      cases n with
      | zero => simp [flatT] at hf
      | succ n =>
        unfold aggT at hb
        unfold leafT at hl
        cases hu : P.underlying t with
        | none => simp [hu] at hb
        | some kd => cases kd <;> simp [hu] at hb hl <;> subst hl <;> rfl
    rw [h1] at hlen ⊢
    have hlt : off < cs.length := by omega
    refine ⟨cs[off], .one _ hb (by simp [hlt]), .inr ⟨hb, ?_⟩⟩
    rw [List.drop_eq_getElem_cons hlt]
    rfl

theorem flat_equal (w : World) : ∀ (n d : Nat) (t : TypeId) (ls : List Leaf) (x y : AV) (xs ys : List AV) (b : Bool), leafT P n t = some ls → flatT P n t = true → ShapeT P t x xs → ShapeT P t y ys → eqCells ls xs ys = some b →
    (Op.equalIn (d + n) t x.den y.den).run P w = .ok b w
  | 0, _, _, _, _, _, _, _, _, h, _, _, _, _ => by simp [leafT] at h
  | n + 1, d, t, ls, x, y, xs, ys, b, hl, hf, hx, hy, he => by
    rw [← Nat.add_assoc]
    have hl' := hl
    have hf' := hf
    unfold leafT at hl
    unfold flatT at hf
    cases hu : P.underlying t with
    | none => simp [hu] at hl
    | some kd =>
      cases hs : szT P t with
      | none => simp [hu, hs] at hf
      | some s =>
        rw [hu] at hl
        rw [hu, hs] at hf
        cases kd <;> simp only [Option.some.injEq, reduceCtorEq] at hl
        case bool =>
          subst hl
          have ha : aggT P t = some false := by simp [aggT, hu]
          rcases hx with ⟨h1, _⟩ | ⟨_, rfl⟩
          · rw [ha] at h1; cases h1
          rcases hy with ⟨h1, _⟩ | ⟨_, rfl⟩
          · rw [ha] at h1; cases h1
          simp only [eqCells] at he
          split at he
          · rename_i a c h1 h2
            simp only [Option.some.injEq] at h2 he
            subst h2; subst he
            obtain ⟨a, c, rfl, rfl, rfl⟩ := eqCell_b h1
            simp [AV.den, run_equalIn_bool' w _ t _ _ hu]
          · cases he
        case int k =>
          subst hl
          have ha : aggT P t = some false := by simp [aggT, hu]
          rcases hx with ⟨h1, _⟩ | ⟨_, rfl⟩
          · rw [ha] at h1; cases h1
          rcases hy with ⟨h1, _⟩ | ⟨_, rfl⟩
          · rw [ha] at h1; cases h1
          simp only [eqCells] at he
          split at he
          · rename_i a c h1 h2
            simp only [Option.some.injEq] at h2 he
            subst h2; subst he
            obtain ⟨k', a, c, rfl, rfl, rfl⟩ := eqCell_i h1
            simp only [AV.den, run_equalIn_int w _ t _ _ _ _ hu, Bool.and_true]
            congr 1
          · cases he
        case string =>
          subst hl
          have ha : aggT P t = some false := by simp [aggT, hu]
          rcases hx with ⟨h1, _⟩ | ⟨_, rfl⟩
          · rw [ha] at h1; cases h1
          rcases hy with ⟨h1, _⟩ | ⟨_, rfl⟩
          · rw [ha] at h1; cases h1
          simp only [eqCells] at he
          split at he
          · rename_i a c h1 h2
            simp only [Option.some.injEq] at h2 he
            subst h2; subst he
            obtain ⟨u, v, rfl, rfl, rfl⟩ := eqCell_s h1
            simp only [AV.den, run_equalIn_string w _ t _ _ hu, Bool.and_true]
            congr 1
            rw [ByteArray.toList_eq, ByteArray.toList_eq]
            by_cases h : u = v <;> simp [h]
          · cases he
        case struct fs =>
          have ha : aggT P t = some true := by simp [aggT, hu]
          have hx' : x = .agg xs := by
            rcases hx with ⟨_, h⟩ | ⟨h1, _⟩
            · exact h
            · rw [ha] at h1; cases h1
          have hy' : y = .agg ys := by
            rcases hy with ⟨_, h⟩ | ⟨h1, _⟩
            · exact h
            · rw [ha] at h1; cases h1
          subst hx'
          subst hy'
          simp only [Bool.and_eq_true, Bool.not_eq_true', beq_iff_eq] at hf
          have hfs : P.fieldsOf t = fs := by simp [Program.fieldsOf, hu]
          simp only [AV.den]
          rw [run_equalIn_struct w _ t _ _ (by rw [hfs]; exact hu) hf.1, hfs]
          have key : ∀ (l : List Field) (o : Nat) (ls : List Leaf) (b : Bool), leafF (leafT P n) l = some ls → flatF P (flatT P n) l o = some s → o ≤ xs.length → o ≤ ys.length → eqCells ls (xs.drop o) (ys.drop o) = some b →
              (Op.eqFields (d + n) (denL xs).toArray (denL ys).toArray l).run P w = .ok b w := by
            intro l
            induction l with
            | nil =>
              intro o ls b h1 _ _ _ h3
              simp [leafF] at h1
              subst h1
              have := eqCells_length h3
              simp only [List.length_nil] at this
              rw [List.eq_nil_of_length_eq_zero this.1, List.eq_nil_of_length_eq_zero this.2] at h3
              simp only [eqCells, Option.some.injEq] at h3
              subst h3
              simp [Op.eqFields]
            | cons f l ih =>
              intro o ls b h1 h2 ho1 ho2 h3
              simp only [leafF] at h1
              split at h1
              · rename_i lx ly hlx hly
                injection h1 with h1
                subst h1
                simp only [flatF] at h2
                split at h2
                · rename_i s1 hb hs1
                  have hs2 := flat_size n f.type lx hlx hb
                  rw [hs2] at hs1
                  injection hs1 with hs1
                  subst hs1
                  split at h2
                  · rename_i h4 h5
                    simp only [beq_iff_eq, beq_eq_false_iff_ne, ne_eq] at h4 h5
                    obtain ⟨b1, b2, h6, h7, rfl⟩ := eqCells_append h3
                    have hlen := eqCells_length h3
                    simp only [List.length_drop, List.length_append] at hlen
                    obtain ⟨u, hu1, hu2⟩ := flat_part hlx hb (cs := xs) (off := o) (by omega)
                    obtain ⟨v, hv1, hv2⟩ := flat_part hlx hb (cs := ys) (off := o) (by omega)
                    have hr := flat_equal w n d f.type lx u v _ _ b1 hlx hb hu2 hv2 h6
                    rw [List.drop_drop, List.drop_drop] at h7
                    have hi := ih (o + lx.length) ly b2 hly h2 (by omega) (by omega) h7
                    simp only [Op.eqFields, h4]
                    rw [if_pos h5]
                    simp only [Sem.run_bind, hu1.runPart w, hv1.runPart w, Result.andThen_ok, hr]
                    cases b1
                    · simp
                    · simpa using hi
                  · cases h2
                · cases h2
              · cases h1
          exact key _ 0 ls b hl hf.2 (Nat.zero_le _) (Nat.zero_le _) (by simpa using he)
        case array len e =>
          have ha : aggT P t = some true := by simp [aggT, hu]
          have hx' : x = .agg xs := by
            rcases hx with ⟨_, h⟩ | ⟨h1, _⟩
            · exact h
            · rw [ha] at h1; cases h1
          have hy' : y = .agg ys := by
            rcases hy with ⟨_, h⟩ | ⟨h1, _⟩
            · exact h
            · rw [ha] at h1; cases h1
          subst hx'
          subst hy'
          split at hl
          · rename_i l hle
            injection hl with hl
            subst hl
            simp only [Bool.and_eq_true] at hf
            have hse := flat_size n e l hle hf.1
            obtain ⟨i, hi, hi2⟩ : ∃ i, P.info? e = some i ∧ i.size = l.length := by
              unfold szT at hse
              split at hse
              · rename_i i hi; rw [litO_eq] at hse; injection hse with hse; exact ⟨i, hi, hse⟩
              · cases hse
            simp only [AV.den]
            rw [run_equalIn_array w (d + n) _ _ hu hi, show P.cellsOf e = l.length by rw [← hi2]; simp [Program.cellsOf, hi]]
            have key : ∀ (m k : Nat) (b : Bool), eqCells (repLeaf l m) (xs.drop (k * l.length)) (ys.drop (k * l.length)) = some b →
                (Op.eqItems (d + n) e l.length (denL xs).toArray (denL ys).toArray ((List.range' k m))).run P w = .ok b w := by
              intro m
              induction m with
              | zero =>
                intro k b h3
                simp only [repLeaf] at h3
                have := eqCells_length h3
                simp only [List.length_nil] at this
                rw [List.eq_nil_of_length_eq_zero this.1, List.eq_nil_of_length_eq_zero this.2] at h3
                simp only [eqCells, Option.some.injEq] at h3
                subst h3
                simp [Op.eqItems]
              | succ m ih =>
                intro k b h3
                simp only [repLeaf] at h3
                have hlen := eqCells_length h3
                simp only [List.length_drop, List.length_append] at hlen
                obtain ⟨b1, b2, h6, h7, rfl⟩ := eqCells_append h3
                rw [List.drop_drop, List.drop_drop] at h7
                have hc : l.length = 0 → k * l.length = 0 := fun h => by rw [h, Nat.mul_zero]
                obtain ⟨u, hu1, hu2⟩ := flat_part hle hf.1 (cs := xs) (off := k * l.length) (by omega)
                obtain ⟨v, hv1, hv2⟩ := flat_part hle hf.1 (cs := ys) (off := k * l.length) (by omega)
                have hr := flat_equal w n d e l u v _ _ b1 hle hf.1 hu2 hv2 h6
                have hi := ih (k + 1) b2 (by rw [Nat.add_mul, Nat.one_mul]; exact h7)
                simp only [List.range'_succ, Op.eqItems, Sem.run_bind, hu1.runPart w, hv1.runPart w, Result.andThen_ok, hr]
                cases b1
                · simp
                · simpa using hi
            have := key len 0 b (by simpa using he)
            rw [← List.range_eq_range'] at this
            exact this
          · cases hl
end
end Go.Sx

namespace Go.Sx
open Go.RowKit

section
variable {P : Program}

theorem run_bool_equal (t : TypeId) (a b : Bool) (h : P.underlying t = some .bool) (w : World) : (Op.equal t (.bool a) (.bool b)).run P w = .ok (a == b) w := run_equal_bool w t a b h


theorem shiftK_spec {op : BinOp} (hop : isShift op = true) {k k' : IntKind} {x y : Int} {K : AV → Prop} (h : shiftK op k x y K) :
    ∃ v : AV, K v ∧ ∀ w : World, (Op.shift op k x k' y).run P w = .ok v.den w := by
  cases op <;> simp [isShift] at hop
  iterate 2
    · simp only [shiftK, NH_iff, NV_iff] at h
      refine ⟨_, h.2, fun w => ?_⟩
      unfold Op.shift
      rw [if_neg (by omega)]
      simp [AV.den]

theorem powO_eq {n : Nat} {p : Int} (h : powO n = some p) : p = 2 ^ n := by
  unfold powO at h
  split at h <;> injection h with h <;> subst h <;> rfl
theorem fdiv_pow (x : Int) (n : Nat) : x.fdiv (2 ^ n) = x / 2 ^ n := Int.fdiv_eq_ediv_of_nonneg x (Int.le_of_lt (Int.pow_pos (by decide)))
theorem shiftC_spec {op : BinOp} {y : Operand} {n : Int} (hc : constShift op y = some n) {x : AV} {K : AV → Prop} (h : shiftC op x n K) :
    ∃ v : AV, K v ∧ ∃ k a k', x.den = .int k a ∧ y = .const (.int k' n) ∧ isShift op = true ∧ ∀ w : World, (Op.shift op k a k' n).run P w = .ok v.den w := by
  unfold shiftC at h
  split at h
  · rename_i k a
    split at h
    · rename_i p hp
      have hp := powO_eq hp
      subst hp
      unfold constShift at hc
      split at hc
      · rename_i k' m
        injection hc with hc; subst hc
        simp only [NH_iff, NV_iff] at h
        refine ⟨_, h.2, k, a, k', rfl, rfl, rfl, fun w => ?_⟩
        unfold Op.shift
        rw [if_neg (by omega)]
        simp [AV.den]
      · rename_i k' m
        injection hc with hc; subst hc
        simp only [NH_iff, NV_iff] at h
        refine ⟨_, h.2, k, a, k', rfl, rfl, rfl, fun w => ?_⟩
        unfold Op.shift
        rw [if_neg (by omega)]
        simp [AV.den, fdiv_pow]
      · cases hc
    · exact h.elim
  · exact h.elim

theorem intK_spec {op : BinOp} (hop : isShift op = false) {t : TypeId} {k : IntKind} {x y : Int} {K : AV → Prop} (h : intK op k x y K) :
    ∃ v : AV, K v ∧ ∀ w : World, (binOp op t (.int k x) (.int k y)).run P w = .ok v.den w := by
  cases op <;> simp [isShift] at hop <;> simp only [intK, NH_iff, NV_iff] at h
  case quo => exact ⟨_, h.2, fun w => by simp [binOp, Op.intDiv, h.1, AV.den]⟩
  case rem => exact ⟨_, h.2, fun w => by simp [binOp, Op.intDiv, h.1, AV.den]⟩
  case and => exact ⟨_, h, fun w => by simp [binOp, Op.intBits, AV.den, bitv]⟩
  case or => exact ⟨_, h, fun w => by simp [binOp, Op.intBits, AV.den, bitv]⟩
  case xor => exact ⟨_, h, fun w => by simp [binOp, Op.intBits, AV.den, bitv]⟩
  case andNot => exact ⟨_, h, fun w => by simp [binOp, Op.intBits, AV.den, bitv]⟩
  case add => exact ⟨_, h, fun w => by simp [binOp, Op.intArith, AV.den]⟩
  case sub => exact ⟨_, h, fun w => by simp [binOp, Op.intArith, AV.den]⟩
  case mul => exact ⟨_, h, fun w => by simp [binOp, Op.intArith, AV.den]⟩
  case eql => exact ⟨_, h, fun w => by simp [binOp, Op.intCmp, AV.den]; rfl⟩
  case neq => exact ⟨_, h, fun w => by simp [binOp, Op.intCmp, AV.den]; rfl⟩
  case lss => exact ⟨_, h, fun w => by simp [binOp, Op.intCmp, AV.den]⟩
  case leq => exact ⟨_, h, fun w => by simp [binOp, Op.intCmp, AV.den]⟩
  case gtr => exact ⟨_, h, fun w => by simp [binOp, Op.intCmp, AV.den]⟩
  case geq => exact ⟨_, h, fun w => by simp [binOp, Op.intCmp, AV.den]⟩

theorem beq_bytes (x y : List UInt8) : (x == y) = decide (x = y) := by
  by_cases h : x = y <;> simp [h]

theorem strK_spec {op : BinOp} {t : TypeId} {x y : List UInt8} {K : AV → Prop} (h : strK op x y K) :
    ∃ v : AV, K v ∧ ∀ w : World, (binOp op t (.string ⟨x.toArray⟩) (.string ⟨y.toArray⟩)).run P w = .ok v.den w := by
  cases op <;> simp only [strK, NH_iff, NS_iff] at h
  case add =>
    refine ⟨_, h.2, fun w => ?_⟩
    have := run_string_add_sum (P := P) w ⟨x.toArray⟩ ⟨y.toArray⟩ (by simpa [ByteArray.size] using h.1)
    rw [ByteArray.mk_append_mk] at this
    simpa [binOp, AV.den] using this
  case eql => exact ⟨_, h, fun w => by simp [binOp, Op.stringOp, AV.den, beq_bytes]⟩
  case neq => exact ⟨_, h, fun w => by simp [binOp, Op.stringOp, AV.den, beq_bytes]⟩
  case lss => exact ⟨_, h, fun w => by simp [binOp, Op.stringOp, AV.den]⟩
  case leq => exact ⟨_, h, fun w => by simp [binOp, Op.stringOp, AV.den, beq_bytes]⟩
  case gtr => exact ⟨_, h, fun w => by simp [binOp, Op.stringOp, AV.den, beq_bytes]⟩
  case geq => exact ⟨_, h, fun w => by simp [binOp, Op.stringOp, AV.den]⟩
  all_goals exact h.elim

theorem eqAgg_spec {t : TypeId} {xs ys : List AV} {K : Bool → Prop} (h : eqAgg P t xs ys K) : ∃ b, K b ∧ P.eqGuardType P.depth t = false ∧ ∀ w : World, (Op.equalIn 10000 t (AV.agg xs).den (AV.agg ys).den).run P w = .ok b w := by
  unfold eqAgg at h
  split at h
  · rename_i ls hc hl
    split at h
    · rename_i b hb
      rw [NFlat_iff] at h
      obtain ⟨⟨h1, h2⟩, h3⟩ := h
      exact ⟨b, h3, h2, fun w => flat_equal w 8 9992 t ls _ _ xs ys b hl h1 (.inl ⟨hc, rfl⟩) (.inl ⟨hc, rfl⟩) hb⟩
    · exact h.elim
  · exact h.elim
/-- What is asked before an equality asks nothing here. -/
theorem run_eqGuard_plain (op : BinOp) (t : TypeId) (xo yo : Operand) (x y : Value) (hx : ∀ c, x ≠ .agg c) (hn : x ≠ .nilIface) (w : World) : (eqGuard op t xo yo x y).run P w = .ok () w := by
  unfold eqGuard
  cases op <;> cases x <;> simp at hx hn <;> simp

theorem pointee_of {t e : TypeId} (h : P.underlying t = some (.pointer e)) : P.underlying t = some (.pointer (P.pointee t)) := by
  simp [Program.pointee, h]

theorem binK_spec {op : BinOp} {t : TypeId} {x y : AV} {K : AV → Prop} (h : binK P op t x y K) :
    ∃ v : AV, K v ∧ ∀ (w : World) (xo yo : Operand), ((do eqGuard op t xo yo x.den y.den; binOp op t x.den y.den) : Sem Value).run P w = .ok v.den w := by
  unfold binK at h
  split at h
  · rename_i k x k' y
    split at h
    · rename_i hop
      obtain ⟨v, h1, h2⟩ := shiftK_spec (P := P) hop (k' := k') h
      refine ⟨v, h1, fun w xo yo => ?_⟩
      rw [Sem.run_bind, run_eqGuard_plain _ _ _ _ _ _ (by simp [AV.den]) (by simp [AV.den])]
      cases op <;> simp [isShift] at hop <;> simpa [AV.den, binOp] using h2 w
    · rename_i hop
      split at h
      · rename_i hk
        have := sameKind_eq hk
        subst this
        obtain ⟨v, h1, h2⟩ := intK_spec (P := P) (t := t) hop h
        refine ⟨v, h1, fun w xo yo => ?_⟩
        rw [Sem.run_bind, run_eqGuard_plain _ _ _ _ _ _ (by simp [AV.den]) (by simp [AV.den])]
        simpa [AV.den] using h2 w
      · exact h.elim
  · obtain ⟨v, h1, h2⟩ := strK_spec (P := P) (t := t) h
    refine ⟨v, h1, fun w xo yo => ?_⟩
    rw [Sem.run_bind, run_eqGuard_plain _ _ _ _ _ _ (by simp [AV.den]) (by simp [AV.den])]
    simpa [AV.den] using h2 w
  · split at h
    iterate 2
      · rename_i hu he
        refine ⟨_, h, fun w xo yo => ?_⟩
        rw [Sem.run_bind, run_eqGuard_plain _ _ _ _ _ _ (by simp [AV.den]) (by simp [AV.den])]
        cases op <;> simp [isEq] at he
        simp [AV.den, binOp, run_bool_equal _ _ _ hu]
    · exact h.elim
  · split at h
    · rename_i he
      obtain ⟨b, hK, hg, hr⟩ := eqAgg_spec h
      refine ⟨_, hK, fun w xo yo => ?_⟩
      cases op <;> simp [isEq] at he
      have hr := hr w
      simp only [AV.den] at hr ⊢
      rw [Sem.run_bind, run_eqGuard_agg w _ t xo yo _ _ hg]
      simp only [Result.andThen_ok, run_eql_struct, hr]
    · rename_i he
      obtain ⟨b, hK, hg, hr⟩ := eqAgg_spec h
      refine ⟨_, hK, fun w xo yo => ?_⟩
      cases op <;> simp [isEq] at he
      have hr := hr w
      simp only [AV.den] at hr ⊢
      rw [Sem.run_bind, run_eqGuard_agg w _ t xo yo _ _ hg]
      simp only [Result.andThen_ok, run_neq_struct, hr]
    · exact h.elim
  · split at h
    · rename_i hu he
      refine ⟨_, h, fun w xo yo => ?_⟩
      rw [Sem.run_bind, run_eqGuard_plain _ _ _ _ _ _ (by simp [AV.den]) (by simp [AV.den])]
      cases op <;> simp [isEq] at he
      simp only [AV.den, Result.andThen_ok, run_eql_pointer_nil w t _ (pointee_of hu), Option.isNone_some]
    · rename_i hu he
      refine ⟨_, h, fun w xo yo => ?_⟩
      rw [Sem.run_bind, run_eqGuard_plain _ _ _ _ _ _ (by simp [AV.den]) (by simp [AV.den])]
      cases op <;> simp [isEq] at he
      simp only [AV.den, Result.andThen_ok, run_neq_pointer_nil w t _ (pointee_of hu), Option.isNone_some, Bool.not_false]
    · exact h.elim
  · split at h
    · rename_i hu he
      refine ⟨_, h, fun w xo yo => ?_⟩
      rw [Sem.run_bind, run_eqGuard_plain _ _ _ _ _ _ (by simp [AV.den]) (by simp [AV.den])]
      cases op <;> simp [isEq] at he
      simp only [AV.den, Result.andThen_ok, run_eql_pointer_nil w t _ (pointee_of hu), Option.isNone_none]
    · rename_i hu he
      refine ⟨_, h, fun w xo yo => ?_⟩
      rw [Sem.run_bind, run_eqGuard_plain _ _ _ _ _ _ (by simp [AV.den]) (by simp [AV.den])]
      cases op <;> simp [isEq] at he
      simp only [AV.den, Result.andThen_ok, run_neq_pointer_nil w t _ (pointee_of hu), Option.isNone_none, Bool.not_true]
    · exact h.elim
  · exact h.elim

theorem unK_spec {op : UnOp} {x : AV} {K : AV → Prop} (h : unK op x K) : ∃ v : AV, K v ∧ ∀ w : World, (Op.unary op x.den).run P w = .ok v.den w := by
  unfold unK at h
  split at h
  · rw [NV_iff] at h
    exact ⟨_, h, fun w => by simp [Op.unary, Op.intArith, AV.den]⟩
  · exact ⟨_, h, fun w => by simp [Op.unary, AV.den]⟩
  · exact h.elim
end
end Go.Sx

namespace Go.Sx
open Go.RowKit

/-- A slice that reads as these cells. -/
def ReadsV (w : World) (sz : Nat) (v : Value) (n : Nat) (cs : List Value) : Prop :=
  cs.length = n * sz ∧ ∃ A cap, v = .slice A n cap ∧ n ≤ cap ∧ (A = none → cap = 0) ∧ (0 < n → ∃ a, A = some a ∧ a.block < w.heap.size ∧ ∀ j u, cs[j]? = some u → w.cell? (a.add j) = some u)

theorem Blk.holds.sl {b : Blk} {w : World} (h : b.holds w) {v : Value} {sz n : Nat} (hk : (∃ t, b.kind = .row v t sz n) ∨ b.kind = .ro v sz n) :
    b.cs.length = n * sz ∧ ∃ A cap, v = .slice A n cap ∧ n ≤ cap ∧ (A = none → cap = 0) ∧ (0 < n → A = some b.a ∧ b.a.block < w.heap.size) := by
  unfold Blk.holds at h
  rcases hk with ⟨t, hk⟩ | hk
  · rw [hk] at h
    obtain ⟨h1, h2⟩ := h
    refine ⟨by rw [← denL_length]; exact h1.1, ?_⟩
    rcases h1.2 with ⟨rfl, rfl⟩ | ⟨g, cap, cur, rfl, _, hg, hc, _⟩
    · exact ⟨none, 0, rfl, Nat.le_refl _, fun _ => rfl, fun h => absurd h (by omega)⟩
    · exact ⟨_, cap, rfl, hc, by simp, fun _ => by rw [h2]; exact ⟨rfl, (Array.getElem?_eq_some_iff.1 hg).1⟩⟩
  · rw [hk] at h
    obtain ⟨h1, A, cap, h2, h3, h30, h4⟩ := h
    exact ⟨h1, A, cap, h2, h3, h30, fun hn => ⟨(h4 hn).1, (h4 hn).2.1⟩⟩

theorem denL_getElem? (cs : List AV) (j : Nat) : (denL cs)[j]? = (cs[j]?).map AV.den := by simp [denL_eq]

theorem Blk.holds.reads {b : Blk} {w : World} (h : b.holds w) {v : Value} {sz n : Nat} (hk : (∃ t, b.kind = .row v t sz n) ∨ b.kind = .ro v sz n) : ReadsV w sz v n (denL b.cs) := by
  obtain ⟨h1, A, cap, h2, h3, h30, h4⟩ := h.sl hk
  refine ⟨by rw [denL_length]; exact h1, A, cap, h2, h3, h30, fun hn => ⟨b.a, (h4 hn).1, (h4 hn).2, fun j u hu => ?_⟩⟩
  rw [denL_getElem?] at hu
  cases hx : b.cs[j]? with
  | none => rw [hx] at hu; cases hu
  | some x => rw [hx] at hu; injection hu with hu; rw [← hu]; exact h.cell hx

theorem ReadsV.cut {w : World} {sz : Nat} {v : Value} {n : Nat} {cs : List Value} (h : ReadsV w sz v n cs) {lo hi : Nat} (h1 : lo ≤ hi) (h2 : hi ≤ n) :
    ReadsV w sz (cutSl v sz lo hi) (hi - lo) ((cs.drop (lo * sz)).take ((hi - lo) * sz)) := by
  obtain ⟨hl, A, cap, rfl, hc, h0, hr⟩ := h
  refine ⟨?_, _, _, rfl, by omega, fun hA => ?_, fun hn => ?_⟩
  · rw [List.length_take, List.length_drop, hl, ← Nat.sub_mul]
    exact Nat.min_eq_left (Nat.mul_le_mul_right _ (by omega))
  · have : cap = lo ∨ cap = 0 := by
      by_cases hcl : cap = lo
      · exact .inl hcl
      · rw [if_neg hcl] at hA
        exact .inr (h0 (by cases A <;> simp at hA ⊢))
    omega
  · obtain ⟨a, rfl, hb, hr⟩ := hr (by omega)
    rw [if_neg (by omega)]
    refine ⟨a.add (lo * sz), rfl, by rw [block_of_add]; exact hb, fun j u hu => ?_⟩
    rw [add_of_add]
    rw [List.getElem?_take] at hu
    split at hu
    · rw [List.getElem?_drop] at hu; exact hr _ _ hu
    · cases hu

theorem denL_take_drop (cs : List AV) (a b : Nat) : denL ((cs.drop a).take b) = ((denL cs).drop a).take b := by simp [denL_eq]

theorem elemsK_spec {m : List Blk} {sz : Nat} {x : AV} {K : List AV → Prop} (h : elemsK m sz x K) :
    ∃ cs n, K cs ∧ lenSl x = some n ∧ ∀ w, MemOk m w → ReadsV w sz x.den n (denL cs) := by
  unfold elemsK at h
  split at h
  · exact ⟨[], 0, h, rfl, fun w _ => ⟨by simp [denL], _, _, rfl, Nat.zero_le _, fun _ => rfl, fun h => absurd h (by omega)⟩⟩
  rotate_left 2
  · rename_i v n
    obtain ⟨F, h, hF⟩ := heapK_spec h
    rw [NH_iff, NRd_iff] at h
    obtain ⟨⟨hok, hs⟩, cs, hl, hc, hK⟩ := h
    refine ⟨cs, n, hK, rfl, fun w hm => ?_⟩
    obtain ⟨A, cap, rfl, hle, hn⟩ := hok
    refine ⟨by rw [denL_length, hl], A, cap, rfl, hle, hn, fun h0 => ?_⟩
    cases A with
    | none => have := hn rfl; omega
    | some a =>
      refine ⟨a, rfl, ?_, fun j u hu => ?_⟩
      · have hlen : 0 < (denL cs).length := by rw [denL_length, hl]; exact Nat.mul_pos h0 hs
        have := hc.at_ 0 _ (List.getElem?_eq_getElem hlen)
        have := (hF w hm _ _ this).1
        rwa [block_of_add] at this
      · have := hc.at_ j u hu
        have := (hF w hm _ _ this).2
        rwa [Nat.zero_add] at this
  · exact h.elim
  · rename_i i v n
    obtain ⟨b, hb, hq⟩ := blkK_spec h
    have key : ((∃ t, b.kind = .row v t sz n) ∨ b.kind = .ro v sz n) → K b.cs → ∃ cs c, K cs ∧ lenSl (.sl i v n) = some c ∧ ∀ w, MemOk m w → ReadsV w sz (AV.sl i v n).den c (denL cs) := fun hk hK => by
      refine ⟨b.cs, n, hK, rfl, fun w hm => ?_⟩
      have hr := (hm.holds b (List.mem_of_getElem? hb)).reads hk
      obtain ⟨h1, A, cap, h2, h3⟩ := hr
      refine ⟨h1, A, cap, ?_, h3⟩
      simp [AV.den, h2, slOf]
    split at hq
    · rename_i v' t' sz' n' hk
      rw [NH_iff] at hq
      obtain ⟨⟨rfl, rfl, rfl⟩, hz⟩ := hq
      exact key (.inl ⟨_, hk⟩) hz
    · rename_i v' sz' n' hk
      rw [NH_iff] at hq
      obtain ⟨⟨rfl, rfl, rfl⟩, hz⟩ := hq
      exact key (.inr hk) hz
    · exact hq.elim
  · rename_i i v sz1 lo hi
    obtain ⟨b, hb, hq⟩ := blkK_spec h
    have key : ∀ n', ((∃ t, b.kind = .row v t sz n') ∨ b.kind = .ro v sz n') → lo ≤ hi → hi ≤ n' → K ((b.cs.drop (lo * sz)).take ((hi - lo) * sz)) →
        ∃ cs c, K cs ∧ lenSl (.view i v sz lo hi) = some c ∧ ∀ w, MemOk m w → ReadsV w sz (AV.view i v sz lo hi).den c (denL cs) := fun n' hk h1 h2 hK => by
      refine ⟨_, hi - lo, hK, rfl, fun w hm => ?_⟩
      have hr := (hm.holds b (List.mem_of_getElem? hb)).reads hk
      rw [denL_take_drop]
      exact hr.cut h1 h2
    split at hq
    · rename_i v' t' sz' n' hk
      rw [NH_iff] at hq
      obtain ⟨⟨rfl, rfl, rfl, h1, h2⟩, hz⟩ := hq
      exact key _ (.inl ⟨_, hk⟩) h1 h2 hz
    · rename_i v' sz' n' hk
      rw [NH_iff] at hq
      obtain ⟨⟨rfl, rfl, rfl, h1, h2⟩, hz⟩ := hq
      exact key _ (.inr hk) h1 h2 hz
    · exact hq.elim

section
variable {P : Program}

theorem foldl_bytes (l : List UInt8) (s : ByteArray) : (l.map (fun b => (b.toNat : Int))).foldl (fun (r : ByteArray) n => r.push (UInt8.ofNat n.toNat)) s = ⟨s.data ++ l.toArray⟩ := by
  induction l generalizing s with
  | nil => simp
  | cons x l ih =>
    simp only [List.map_cons, List.foldl_cons]
    rw [ih]
    simp [ByteArray.push]

theorem run_bytes_of (w : World) (v : Value) (n : Nat) (l : List UInt8) (h : ReadsV w 1 v n (l.map (fun b => Value.int .u8 b.toNat))) : (Conv.bytesToString v).run P w = .ok (.string ⟨l.toArray⟩) w := by
  obtain ⟨hl, A, cap, rfl, hc, _, hr⟩ := h
  rcases Nat.eq_zero_or_pos n with h0 | h0
  · subst h0
    have : l = [] := by simpa using hl
    subst this
    cases A with
    | none => simp [Conv.bytesToString]; rfl
    | some a =>
      have := run_bytesToString (P := P) w a 0 cap [] (by simp [loadCells, loadCellsFrom])
      rw [this]; rfl
  · obtain ⟨a, rfl, _, hr⟩ := hr h0
    have hlc := run_loadCells_list (P := P) w a _ hr
    rw [hl, Nat.mul_one] at hlc
    have := run_bytesToString (P := P) w a n cap (l.map (fun b => (b.toNat : Int))) (by rw [hlc]; simp [Function.comp_def])
    rw [this, foldl_bytes]
    simp

theorem convK_spec {m : List Blk} {src dst : TypeId} {x : AV} {K : AV → Prop} (h : convK P m src dst x K) :
    ∃ v : AV, K v ∧ ∀ w, MemOk m w → (convert src dst x.den).run P w = .ok v.den w := by
  unfold convK at h
  split at h
  · rename_i d k hs hd
    split at h
    · rw [NV_iff] at h
      exact ⟨_, h, fun w _ => by simp [convert, run_underlying hs, run_underlying hd, AV.den, Conv.intToInt]⟩
    · exact h.elim
  · rename_i hs hd
    split at h
    · exact ⟨_, h, fun w _ => by simp [convert, run_underlying hs, run_underlying hd, AV.den]⟩
    · exact h.elim
  · rename_i e hs hd
    split at h
    · rename_i he
      obtain ⟨cs, n, hK, hl, hr⟩ := elemsK_spec h
      rw [NBytes_iff] at hK
      obtain ⟨l, h1, h2⟩ := hK
      refine ⟨_, h2, fun w hm => ?_⟩
      have hr := hr w hm
      rw [h1] at hr
      have hv : ∃ A cap, x.den = .slice A n cap := by obtain ⟨_, A, cap, h, _⟩ := hr; exact ⟨A, cap, h⟩
      obtain ⟨A, cap, hv⟩ := hv
      have := run_bytes_of (P := P) w x.den n l hr
      rw [hv] at this ⊢
      rw [run_convert_bytes_string w src dst e A n cap hs he hd, this]
      rfl
    · exact h.elim
  · exact h.elim

theorem intOfK_spec {x : AV} {K : Int → Prop} (h : intOfK x K) : ∃ k n, x.den = .int k n ∧ K n := by
  unfold intOfK at h
  split at h
  · exact ⟨_, _, rfl, h⟩
  · exact h.elim

theorem run_bounds_any (isS : Bool) (n c : Nat) (lo hi : Option Value) (l h : Nat) (hl : ∀ v, lo = some v → ∃ k, v = .int k l) (hl0 : lo = none → l = 0) (hh : ∀ v, hi = some v → ∃ k, v = .int k h) (hh0 : hi = none → h = n)
    (h1 : l ≤ h) (h2 : h ≤ c) (w : World) : (Instr.sliceBounds isS n c lo hi none).run P w = .ok (l, h, c) w := by
  cases lo with
  | none =>
    have := hl0 rfl; subst this
    cases hi with
    | none => have := hh0 rfl; subst this; simp [Instr.sliceBounds]
    | some hv =>
      obtain ⟨kh, rfl⟩ := hh _ rfl
      simp only [Instr.sliceBounds, Sem.run_bind, Sem.run_pure, Result.andThen_ok]
      rw [run_sliceBound (P := P) w kh h c _ (by omega) (by omega)]
      simp
  | some lv =>
    obtain ⟨kl, rfl⟩ := hl _ rfl
    cases hi with
    | none =>
      have := hh0 rfl; subst this
      simp only [Instr.sliceBounds, Sem.run_bind, Sem.run_pure, Result.andThen_ok, Option.isSome_none]
      rw [run_sliceBound (P := P) w kl l h _ (by omega) (by omega)]
      simp
    | some hv =>
      obtain ⟨kh, rfl⟩ := hh _ rfl
      simp only [Instr.sliceBounds, Sem.run_bind, Sem.run_pure, Result.andThen_ok, Option.isSome_none]
      rw [run_sliceBound (P := P) w kh h c _ (by omega) (by omega)]
      simp only [Result.andThen_ok, Int.toNat_natCast]
      rw [run_sliceBound (P := P) w kl l h _ (by omega) (by omega)]
      simp

theorem run_sliceStr (t : TypeId) (s : List UInt8) (ht : P.underlying t = some .string) (lo hi : Option Value) (l h : Nat) (hl : ∀ v, lo = some v → ∃ k, v = .int k l) (hl0 : lo = none → l = 0) (hh : ∀ v, hi = some v → ∃ k, v = .int k h) (hh0 : hi = none → h = s.length)
    (h1 : l ≤ h) (h2 : h ≤ s.length) (w : World) : (Instr.sliceAt t (.string ⟨s.toArray⟩) lo hi none).run P w = .ok (.string ⟨((s.drop l).take (h - l)).toArray⟩) w := by
  simp only [Instr.sliceAt, Sem.run_bind, run_underlying ht, Result.andThen_ok]
  simp only [Instr.slice, Sem.run_bind, run_underlying ht, Result.andThen_ok]
  have hsz : (⟨s.toArray⟩ : ByteArray).size = s.length := by simp [ByteArray.size]
  rw [hsz]
  simp only [Option.isSome_none, Bool.false_eq_true, if_false, Sem.run_bind, Sem.run_pure]
  rw [run_bounds_any false s.length s.length lo hi l h hl hl0 hh hh0 h1 h2 w]
  simp [ByteArray.extract_mk]

theorem run_sliceSl (t e : TypeId) (ht : P.underlying t = some (.slice e)) (sz : Nat) (hs : szT P e = some sz) (A : Option Addr) (n c : Nat) (lo hi : Option Value) (l h : Nat) (hl : ∀ v, lo = some v → ∃ k, v = .int k l) (hl0 : lo = none → l = 0) (hh : ∀ v, hi = some v → ∃ k, v = .int k h) (hh0 : hi = none → h = n)
    (h1 : l ≤ h) (h2 : h ≤ n) (h3 : n ≤ c) (w : World) : (Instr.sliceAt t (.slice A n c) lo hi none).run P w = .ok (cutSl (.slice A n c) sz l h) w := by
  simp only [Instr.sliceAt, Sem.run_bind, run_underlying ht, Result.andThen_ok]
  simp only [Instr.slice, Sem.run_bind, run_underlying ht, Result.andThen_ok]
  rw [run_bounds_any true n c lo hi l h hl hl0 hh hh0 h1 (by omega) w]
  simp [run_sizeOf hs, cutSl, slOf]

end
end Go.Sx

namespace Go.Sx
open Go.RowKit
section
variable {P : Program}

theorem chkK_spec {m : List Blk} {x : AV} {K : Nat → Prop} (h : chkK m x K) : ∃ n, K n ∧ ∀ w, MemOk m w → ∃ A c, x.den = .slice A n c ∧ n ≤ c := by
  unfold chkK at h
  split at h
  · exact ⟨0, h, fun w _ => ⟨_, _, rfl, Nat.zero_le _⟩⟩
  · rename_i i v n
    obtain ⟨b, hb, hq⟩ := blkK_spec h
    split at hq
    · rename_i v' t' sz' n' hk
      rw [NH_iff] at hq
      obtain ⟨⟨rfl, rfl⟩, hz⟩ := hq
      refine ⟨_, hz, fun w hm => ?_⟩
      obtain ⟨_, A, cap, rfl, hc, _⟩ := (hm.holds b (List.mem_of_getElem? hb)).sl (.inl ⟨_, hk⟩)
      exact ⟨A, cap, rfl, hc⟩
    · rename_i v' sz' n' hk
      rw [NH_iff] at hq
      obtain ⟨⟨rfl, rfl⟩, hz⟩ := hq
      refine ⟨_, hz, fun w hm => ?_⟩
      obtain ⟨_, A, cap, rfl, hc, _⟩ := (hm.holds b (List.mem_of_getElem? hb)).sl (.inr hk)
      exact ⟨A, cap, rfl, hc⟩
    · exact hq.elim
  · rename_i i v sz lo hi
    obtain ⟨b, hb, hq⟩ := blkK_spec h
    split at hq
    · rename_i v' t' sz' n' hk
      rw [NH_iff] at hq
      obtain ⟨⟨rfl, h1, h2⟩, hz⟩ := hq
      refine ⟨_, hz, fun w hm => ?_⟩
      obtain ⟨_, A, cap, rfl, hc, _⟩ := (hm.holds b (List.mem_of_getElem? hb)).sl (.inl ⟨_, hk⟩)
      exact ⟨_, _, rfl, by omega⟩
    · rename_i v' sz' n' hk
      rw [NH_iff] at hq
      obtain ⟨⟨rfl, h1, h2⟩, hz⟩ := hq
      refine ⟨_, hz, fun w hm => ?_⟩
      obtain ⟨_, A, cap, rfl, hc, _⟩ := (hm.holds b (List.mem_of_getElem? hb)).sl (.inr hk)
      exact ⟨_, _, rfl, by omega⟩
    · exact hq.elim
  · rename_i v n
    rw [NH_iff] at h
    obtain ⟨⟨A, c, rfl, hc, _⟩, h⟩ := h
    exact ⟨n, h, fun w _ => ⟨A, c, rfl, hc⟩⟩
  · exact h.elim

theorem slOf_cutSl (v : Value) (sz lo hi : Nat) : slOf (cutSl v sz lo hi) = cutSl v sz lo hi := by cases v <;> simp [cutSl, slOf]
theorem cutSl_slOf (v : Value) (sz lo hi : Nat) : cutSl (slOf v) sz lo hi = cutSl v sz lo hi := by cases v <;> rfl

theorem sliceK_spec {m : List Blk} {t : TypeId} {x : AV} {lo hi : Option AV} {K : AV → Prop} (h : sliceK P m t x lo hi K) :
    ∃ v : AV, K v ∧ ∀ w, MemOk m w → (Instr.sliceAt t x.den (lo.map AV.den) (hi.map AV.den) none).run P w = .ok v.den w := by
  unfold sliceK at h
  split at h
  · rename_i s ht
    split at h
    · exact ⟨_, h, fun w _ => by simpa [AV.den] using run_sliceStr (P := P) t s ht none none 0 s.length (by simp) (by simp) (by simp) (by simp) (Nat.zero_le _) (Nat.le_refl _) w⟩
    · obtain ⟨k, n, e, h⟩ := intOfK_spec h
      simp only [NH_iff, NN_iff, NS_iff] at h
      obtain ⟨⟨h1, h2⟩, h⟩ := h
      refine ⟨_, h, fun w _ => ?_⟩
      have := run_sliceStr (P := P) t s ht (some (.int k n)) none n.toNat s.length (by rintro v ⟨⟩; exact ⟨k, by congr 1; omega⟩) (by simp) (by simp) (by simp) (by omega) (Nat.le_refl _) w
      rw [List.take_of_length_le (by simp)] at this
      simpa [AV.den, e] using this
    · obtain ⟨k, n, e, h⟩ := intOfK_spec h
      simp only [NH_iff, NN_iff, NS_iff] at h
      obtain ⟨⟨h1, h2⟩, h⟩ := h
      refine ⟨_, h, fun w _ => ?_⟩
      have := run_sliceStr (P := P) t s ht none (some (.int k n)) 0 n.toNat (by simp) (by simp) (by rintro v ⟨⟩; exact ⟨k, by congr 1; omega⟩) (by simp) (by omega) (by omega) w
      simpa [AV.den, e] using this
    · obtain ⟨k, n, e, h⟩ := intOfK_spec h
      obtain ⟨k', n', e', h⟩ := intOfK_spec h
      simp only [NH_iff, NN_iff, NS_iff] at h
      obtain ⟨⟨h1, h2, h3⟩, h⟩ := h
      refine ⟨_, h, fun w _ => ?_⟩
      have := run_sliceStr (P := P) t s ht (some (.int k n)) (some (.int k' n')) n.toNat n'.toNat (by rintro v ⟨⟩; exact ⟨k, by congr 1; omega⟩) (by simp) (by rintro v ⟨⟩; exact ⟨k', by congr 1; omega⟩) (by simp) (by omega) (by omega) w
      simpa [AV.den, e, e'] using this
  · rename_i e i v n ht
    split at h
    · rename_i sz hs
      obtain ⟨n', hK, hv⟩ := chkK_spec h
      have hx : ∀ w, MemOk m w → ∃ A c, slOf v = .slice A n' c ∧ n' ≤ c := fun w hm => hv w hm
      clear h hv
      have h := hK
      split at h
      · refine ⟨_, h, fun w hm => ?_⟩
        obtain ⟨A, c, hv, hc⟩ := hx w hm
        have := run_sliceSl (P := P) t e ht sz hs A n' c none none 0 n' (by simp) (by simp) (by simp) (by simp) (Nat.zero_le _) (Nat.le_refl _) hc w
        rw [← hv] at this
        rw [cutSl_slOf] at this
        exact this
      · obtain ⟨k, l, el, h⟩ := intOfK_spec h
        simp only [NH_iff, NN_iff] at h
        obtain ⟨⟨h1, h2⟩, h⟩ := h
        refine ⟨_, h, fun w hm => ?_⟩
        obtain ⟨A, c, hv, hc⟩ := hx w hm
        have := run_sliceSl (P := P) t e ht sz hs A n' c (some (.int k l)) none l.toNat n' (by rintro v ⟨⟩; exact ⟨k, by congr 1; omega⟩) (by simp) (by simp) (by simp) (by omega) (Nat.le_refl _) hc w
        rw [← hv, cutSl_slOf] at this
        simpa [AV.den, el] using this
      · obtain ⟨k, l, el, h⟩ := intOfK_spec h
        simp only [NH_iff, NN_iff] at h
        obtain ⟨⟨h1, h2⟩, h⟩ := h
        refine ⟨_, h, fun w hm => ?_⟩
        obtain ⟨A, c, hv, hc⟩ := hx w hm
        have := run_sliceSl (P := P) t e ht sz hs A n' c none (some (.int k l)) 0 l.toNat (by simp) (by simp) (by rintro v ⟨⟩; exact ⟨k, by congr 1; omega⟩) (by simp) (by omega) (by omega) hc w
        rw [← hv, cutSl_slOf] at this
        simpa [AV.den, el] using this
      · obtain ⟨k, l, el, h⟩ := intOfK_spec h
        obtain ⟨k', l', el', h⟩ := intOfK_spec h
        simp only [NH_iff, NN_iff] at h
        obtain ⟨⟨h1, h2, h3⟩, h⟩ := h
        refine ⟨_, h, fun w hm => ?_⟩
        obtain ⟨A, c, hv, hc⟩ := hx w hm
        have := run_sliceSl (P := P) t e ht sz hs A n' c (some (.int k l)) (some (.int k' l')) l.toNat l'.toNat (by rintro v ⟨⟩; exact ⟨k, by congr 1; omega⟩) (by simp) (by rintro v ⟨⟩; exact ⟨k', by congr 1; omega⟩) (by simp) (by omega) (by omega) hc w
        rw [← hv, cutSl_slOf] at this
        simpa [AV.den, el, el'] using this
    · exact h.elim
  · rename_i e v n' ht
    split at h
    · rename_i sz hs
      rw [NH_iff] at h
      obtain ⟨hok, hK⟩ := h
      have hx : ∀ w, MemOk m w → ∃ A c, slOf v = .slice A n' c ∧ n' ≤ c := fun w _ => by
        obtain ⟨A, c, rfl, hc, _⟩ := hok
        exact ⟨A, c, rfl, hc⟩
      have h := hK
      split at h
      · refine ⟨_, h, fun w hm => ?_⟩
        obtain ⟨A, c, hv, hc⟩ := hx w hm
        have := run_sliceSl (P := P) t e ht sz hs A n' c none none 0 n' (by simp) (by simp) (by simp) (by simp) (Nat.zero_le _) (Nat.le_refl _) hc w
        rw [← hv] at this
        rw [cutSl_slOf] at this
        simp only [AV.den, slOf_cutSl]
        exact this
      · obtain ⟨k, l, el, h⟩ := intOfK_spec h
        simp only [NH_iff, NN_iff] at h
        obtain ⟨⟨h1, h2⟩, h⟩ := h
        refine ⟨_, h, fun w hm => ?_⟩
        obtain ⟨A, c, hv, hc⟩ := hx w hm
        have := run_sliceSl (P := P) t e ht sz hs A n' c (some (.int k l)) none l.toNat n' (by rintro v ⟨⟩; exact ⟨k, by congr 1; omega⟩) (by simp) (by simp) (by simp) (by omega) (Nat.le_refl _) hc w
        rw [← hv, cutSl_slOf] at this
        simpa [AV.den, el, slOf_cutSl] using this
      · obtain ⟨k, l, el, h⟩ := intOfK_spec h
        simp only [NH_iff, NN_iff] at h
        obtain ⟨⟨h1, h2⟩, h⟩ := h
        refine ⟨_, h, fun w hm => ?_⟩
        obtain ⟨A, c, hv, hc⟩ := hx w hm
        have := run_sliceSl (P := P) t e ht sz hs A n' c none (some (.int k l)) 0 l.toNat (by simp) (by simp) (by rintro v ⟨⟩; exact ⟨k, by congr 1; omega⟩) (by simp) (by omega) (by omega) hc w
        rw [← hv, cutSl_slOf] at this
        simpa [AV.den, el, slOf_cutSl] using this
      · obtain ⟨k, l, el, h⟩ := intOfK_spec h
        obtain ⟨k', l', el', h⟩ := intOfK_spec h
        simp only [NH_iff, NN_iff] at h
        obtain ⟨⟨h1, h2, h3⟩, h⟩ := h
        refine ⟨_, h, fun w hm => ?_⟩
        obtain ⟨A, c, hv, hc⟩ := hx w hm
        have := run_sliceSl (P := P) t e ht sz hs A n' c (some (.int k l)) (some (.int k' l')) l.toNat l'.toNat (by rintro v ⟨⟩; exact ⟨k, by congr 1; omega⟩) (by simp) (by rintro v ⟨⟩; exact ⟨k', by congr 1; omega⟩) (by simp) (by omega) (by omega) hc w
        rw [← hv, cutSl_slOf] at this
        simpa [AV.den, el, el', slOf_cutSl] using this
    · exact h.elim
  · rename_i n e j a off ht
    split at h
    · rename_i sz hs
      refine ⟨_, h, fun w _ => ?_⟩
      simp only [Instr.sliceAt, Sem.run_bind, run_underlying ht, Result.andThen_ok, AV.den, Instr.sureAddr, Sem.run_pure, Instr.sliceBounds, Option.map_none, run_sizeOf hs]
      simp [Addr.add]
    · exact h.elim
  · exact h.elim

theorem indexAddrK_spec {t : TypeId} {x : AV} {k : IntKind} {n : Int} {K : AV → Prop} {m : List Blk} (h : indexAddrK P m t x n K) :
    ∃ v : AV, K v ∧ ∀ w, MemOk m w → (Instr.indexAt t x.den (.int k n)).run P w = .ok v.den w := by
  unfold indexAddrK at h
  split at h
  · rename_i len e ht
    split at h
    · rename_i j a off sz hs
      simp only [NH_iff, NN_iff] at h
      obtain ⟨⟨h1, h2⟩, h⟩ := h
      refine ⟨_, h, fun w _ => ?_⟩
      simp only [Instr.indexAt, asIntOf, Sem.run_bind, Sem.run_pure, Result.andThen_ok, run_underlying ht, AV.den, Instr.sureAddr]
      rw [if_pos ⟨h1, h2⟩]
      simp [run_sizeOf hs, add_of_add]
    · rename_i a off sz hs
      simp only [NH_iff, NN_iff] at h
      obtain ⟨⟨h1, h2⟩, h⟩ := h
      refine ⟨_, h, fun w _ => ?_⟩
      simp only [Instr.indexAt, asIntOf, Sem.run_bind, Sem.run_pure, Result.andThen_ok, run_underlying ht, AV.den, Instr.sureAddr]
      rw [if_pos ⟨h1, h2⟩]
      simp [run_sizeOf hs, add_of_add]
    · exact h.elim
  · rename_i e ht
    split at h
    · rename_i sz hs
      split at h
      · rename_i j v c
        obtain ⟨b, hb, hq⟩ := blkK_spec h
        have key : ((∃ t, b.kind = .row v t sz c) ∨ b.kind = .ro v sz c) → 0 ≤ n → n < c → K (.ptr j b.a (n.toNat * sz)) → ∃ u : AV, K u ∧ ∀ w, MemOk m w → (Instr.indexAt t (AV.sl j v c).den (.int k n)).run P w = .ok u.den w := fun hk h1 h2 hK => by
          refine ⟨_, hK, fun w hm => ?_⟩
          obtain ⟨_, A, cap, rfl, hc, _, hA⟩ := (hm.holds b (List.mem_of_getElem? hb)).sl hk
          obtain ⟨rfl, _⟩ := hA (by omega)
          simp only [Instr.indexAt, asIntOf, Sem.run_bind, Sem.run_pure, Result.andThen_ok, run_underlying ht, AV.den, slOf]
          rw [if_pos ⟨h1, h2⟩]
          simp [run_sizeOf hs]
        split at hq
        · rename_i v' t' sz' n' hk
          simp only [NH_iff, NN_iff] at hq
          obtain ⟨⟨rfl, rfl, rfl, h1, h2⟩, hz⟩ := hq
          exact key (.inl ⟨_, hk⟩) h1 h2 hz
        · rename_i v' sz' n' hk
          simp only [NH_iff, NN_iff] at hq
          obtain ⟨⟨rfl, rfl, rfl, h1, h2⟩, hz⟩ := hq
          exact key (.inr hk) h1 h2 hz
        · exact hq.elim
      · rename_i j v sz1 lo hi
        obtain ⟨b, hb, hq⟩ := blkK_spec h
        have key : ∀ c', ((∃ t, b.kind = .row v t sz c') ∨ b.kind = .ro v sz c') → lo ≤ hi → hi ≤ c' → 0 ≤ n → n < (hi - lo : Nat) → K (.ptr j b.a ((lo + n.toNat) * sz)) →
            ∃ u : AV, K u ∧ ∀ w, MemOk m w → (Instr.indexAt t (AV.view j v sz lo hi).den (.int k n)).run P w = .ok u.den w := fun c' hk h0 h0' h1 h2 hK => by
          refine ⟨_, hK, fun w hm => ?_⟩
          obtain ⟨_, A, cap, rfl, hc, _, hA⟩ := (hm.holds b (List.mem_of_getElem? hb)).sl hk
          obtain ⟨rfl, _⟩ := hA (by omega)
          simp only [Instr.indexAt, asIntOf, Sem.run_bind, Sem.run_pure, Result.andThen_ok, run_underlying ht, AV.den, cutSl, slOf]
          rw [if_neg (by omega)]
          simp only [Option.map_some]
          rw [if_pos ⟨h1, h2⟩]
          simp [run_sizeOf hs, add_of_add, Nat.add_mul]
        split at hq
        · rename_i v' t' sz' n' hk
          simp only [NH_iff, NN_iff] at hq
          obtain ⟨⟨rfl, rfl, rfl, h0, h0', h1, h2⟩, hz⟩ := hq
          exact key _ (.inl ⟨_, hk⟩) h0 h0' h1 h2 hz
        · rename_i v' sz' n' hk
          simp only [NH_iff, NN_iff] at hq
          obtain ⟨⟨rfl, rfl, rfl, h0, h0', h1, h2⟩, hz⟩ := hq
          exact key _ (.inr hk) h0 h0' h1 h2 hz
        · exact hq.elim
      · rename_i v c
        simp only [NH_iff, NN_iff] at h
        obtain ⟨⟨hok, h1, h2⟩, hK⟩ := h
        refine ⟨_, hK, fun w hm => ?_⟩
        obtain ⟨A, cap, rfl, hc, hA⟩ := hok
        cases A with
        | none => have := hA rfl; omega
        | some a =>
          simp only [Instr.indexAt, asIntOf, Sem.run_bind, Sem.run_pure, Result.andThen_ok, run_underlying ht, AV.den, slOf]
          rw [if_pos ⟨h1, h2⟩]
          simp [run_sizeOf hs, addrOf]
      · exact h.elim
    · exact h.elim
  · exact h.elim

theorem indexK_spec {t : TypeId} {x : AV} {k : IntKind} {n : Int} {K : AV → Prop} (h : indexK P t x n K) :
    ∃ v : AV, K v ∧ ∀ w, (Instr.index t x.den (.int k n)).run P w = .ok v.den w := by
  unfold indexK at h
  split at h
  · rename_i ht
    split at h
    · rename_i s
      simp only [NH_iff, NN_iff] at h
      obtain ⟨⟨h1, h2⟩, h⟩ := h
      refine ⟨_, h, fun w => ?_⟩
      simp only [Instr.index, asIntOf, Sem.run_bind, Sem.run_pure, Result.andThen_ok, run_underlying ht, AV.den]
      have hlt : n.toNat < (⟨s.toArray⟩ : ByteArray).size := by simp [ByteArray.size]; omega
      rw [if_pos h1, ByteArray.getElem?_lt' _ _ hlt]
      have hlt' : n.toNat < s.length := by omega
      have e : (⟨s.toArray⟩ : ByteArray)[n.toNat] = s[n.toNat] := rfl
      simp [e, hlt']
    · exact h.elim
  · rename_i len e ht
    split at h
    · rename_i cs sz hs
      simp only [NH_iff, NN_iff] at h
      obtain ⟨⟨h1, h2⟩, h⟩ := h
      obtain ⟨v, hK, hp⟩ := partK_spec h
      refine ⟨v, hK, fun w => ?_⟩
      simp only [Instr.index, asIntOf, Sem.run_bind, Sem.run_pure, Result.andThen_ok, run_underlying ht, AV.den]
      rw [if_pos ⟨h1, h2⟩]
      simp only [Sem.run_bind, run_sizeOf hs, Result.andThen_ok]
      exact hp.runPart w
    · exact h.elim
  · exact h.elim

theorem fieldAddrK_spec {s : TypeId} {x : AV} {f : Nat} {K : AV → Prop} (h : fieldAddrK P s x f K) :
    ∃ v : AV, K v ∧ ∀ w, (Instr.fieldAt s x.den f).run P w = .ok v.den w := by
  unfold fieldAddrK at h
  split at h
  · rename_i fs hs
    split at h
    · rename_i fd hf
      split at h
      · rename_i j a off sz o hz ho
        rw [litO_eq] at ho
        injection ho with ho
        subst ho
        rw [NN_iff] at h
        refine ⟨_, h, fun w => ?_⟩
        simp only [Instr.fieldAt, Sem.run_bind, run_underlying hs, Result.andThen_ok, hf, Instr.sureAddr, AV.den, Sem.run_pure]
        simp [fieldPlace, run_sizeOf hz, add_of_add]
      · rename_i a off sz o hz ho
        rw [litO_eq] at ho
        injection ho with ho
        subst ho
        rw [NN_iff] at h
        refine ⟨_, h, fun w => ?_⟩
        simp only [Instr.fieldAt, Sem.run_bind, run_underlying hs, Result.andThen_ok, hf, Instr.sureAddr, AV.den, Sem.run_pure]
        simp [fieldPlace, run_sizeOf hz, add_of_add]
      · exact h.elim
    · exact h.elim
  · exact h.elim

theorem fieldK_spec {s : TypeId} {x : AV} {f : Nat} {K : AV → Prop} (h : fieldK P s x f K) :
    ∃ v : AV, K v ∧ ∀ w, (Instr.field s x.den f).run P w = .ok v.den w := by
  unfold fieldK at h
  split at h
  · rename_i fs hs
    split at h
    · rename_i fd hf
      split at h
      · rename_i cs
        obtain ⟨v, hK, hp⟩ := partK_spec h
        refine ⟨v, hK, fun w => ?_⟩
        simp only [Instr.field, Sem.run_bind, run_underlying hs, Result.andThen_ok, hf, AV.den, asAgg, Sem.run_pure]
        exact hp.runPart w
      · exact h.elim
    · exact h.elim
  · exact h.elim

inductive HLoad (P : Program) (F : Heap) (t : TypeId) (a : Addr) (off : Nat) : AV → Prop where
  | many (xs : List AV) : aggT P t = some true → szT P t = some xs.length → (∀ j x, xs[j]? = some x → F.c (a.add (off + j)) x.den) → HLoad P F t a off (.agg xs)
  | one (u : Value) : aggT P t = some false → F.c (a.add off) u → HLoad P F t a off (ofCellH u)
theorem HLoad.run {F : Heap} {t : TypeId} {a : Addr} {off : Nat} {x : AV} (h : HLoad P F t a off x) {w : World} (hF : ∀ a u, F.c a u → a.block < w.heap.size ∧ w.cell? a = some u) :
    (loadVar t (a.add off)).run P w = .ok x.den w := by
  cases h with
  | many xs h1 h2 h3 =>
    unfold loadVar
    rw [Sem.run_bind, run_isAgg h1]
    simp only [Result.andThen_ok, if_true, Sem.run_bind, run_sizeOf h2]
    have hr := run_loadCells_list (P := P) w (a.add off) (denL xs) (fun j v hv => by
      rw [denL_getElem?] at hv
      cases hx : xs[j]? with
      | none => rw [hx] at hv; cases hv
      | some y => rw [hx] at hv; injection hv with hv; rw [add_of_add, ← hv]; exact (hF _ _ (h3 j y hx)).2)
    rw [denL_length] at hr
    rw [hr]
    simp [AV.den]
  | one u h1 h2 =>
    unfold loadVar
    rw [Sem.run_bind, run_isAgg h1]
    simp [(hF _ _ h2).2, ofCellH_den]
theorem loadH_spec {m : List Blk} {t : TypeId} {a : Addr} {off : Nat} {K : AV → Prop} (h : loadK P m t (.hp a off) K) : ∃ v F, K v ∧ HLoad P F t a off v ∧ ∀ w, MemOk m w → ∀ a u, F.c a u → a.block < w.heap.size ∧ w.cell? a = some u := by
  simp only [loadK] at h
  obtain ⟨F, h, hF⟩ := heapK_spec h
  split at h
  · rename_i s h1 h2
    obtain ⟨xs, h3, h4, h5⟩ := ldsK_spec h
    subst h3
    exact ⟨_, F, h4, .many xs h1 h2 h5, hF⟩
  · rename_i h1
    rw [NLd_iff] at h
    obtain ⟨u, h2, h3⟩ := h
    exact ⟨_, F, cellHK_spec h3, .one u h1 h2, hF⟩
  · exact h.elim
theorem loadK_spec {m : List Blk} {t : TypeId} {x : AV} {K : AV → Prop} (h : loadK P m t x K) :
    ∃ v : AV, K v ∧ (∃ a, x.den = .pointer (some a)) ∧ ∀ w, MemOk m w → (Instr.loadAt t x.den).run P w = .ok v.den w := by
  cases x with
  | ptr j a off =>
    simp only [loadK] at h
    obtain ⟨b, hb, hq⟩ := blkK_spec h
    rw [NH_iff] at hq
    obtain ⟨rfl, hz⟩ := hq
    obtain ⟨v, hK, hp⟩ := partK_spec hz
    refine ⟨v, hK, ⟨_, rfl⟩, fun w hm => ?_⟩
    simp only [Instr.loadAt, Sem.run_bind, AV.den, Instr.sureAddr, Sem.run_pure, Result.andThen_ok]
    exact hp.load hm hb
  | hp a off =>
    obtain ⟨v, F, hK, hp, hF⟩ := loadH_spec h
    refine ⟨v, hK, ⟨_, rfl⟩, fun w hm => ?_⟩
    simp only [Instr.loadAt, Sem.run_bind, AV.den, Instr.sureAddr, Sem.run_pure, Result.andThen_ok]
    exact hp.run (hF w hm)
  | _ => exact h.elim

theorem zeroT_run {t : TypeId} {z : AV} (h : zeroT P t = some z) (w : World) : (zeroValue t).run P w = .ok z.den w := by
  unfold zeroT at h
  split at h
  · rename_i i hi
    split at h
    · rename_i v hv
      injection h with h
      subst h
      simp [zeroValue, typeInfo, hi, hv, ofVal_den]
    · cases h
  · cases h

theorem fold_put (news : List Value) : ∀ (cs : Array Value) (off k : Nat), off + k + news.length ≤ cs.size →
    (news.zipIdx k).foldl (fun (cs : Array Value) (p : Value × Nat) => cs.setIfInBounds (off + p.2) p.1) cs = (cs.toList.take (off + k) ++ news ++ cs.toList.drop (off + k + news.length)).toArray := by
  induction news with
  | nil => intro cs off k h; simp
  | cons v news ih =>
    intro cs off k h
    simp only [List.zipIdx_cons, List.foldl_cons]
    rw [ih _ _ _ (by simp at h ⊢; omega)]
    congr 1
    simp only [List.length_cons] at h
    have hlt : off + k < cs.toList.length := by simp; omega
    rw [show off + (k + 1) = off + k + 1 from by omega]
    simp only [Array.toList_setIfInBounds]
    have e1 : (cs.toList.set (off + k) v).take (off + k + 1) = cs.toList.take (off + k) ++ [v] := by
      rw [List.take_succ_eq_append_getElem (by simpa using hlt)]
      simp [List.take_set_of_le]
    rw [e1, List.drop_set_of_lt (by omega)]
    rw [show off + k + 1 + news.length = off + k + (news.length + 1) from by omega]
    simp

theorem fillK_spec {place : Nat → Option (Nat × Nat)} {sl : List AV} {a : Act} (hs : SlotsOk sl a.tmps) {parts : List (Nat × Operand)} {cells : List AV} {k : List AV → Prop} (h : fillK place sl cells parts k) :
    ∃ cs, k cs ∧ cs.length = cells.length ∧ Instr.fill place (denL cells).toArray (parts.map fun (i, x) => (i, a.eval x)) = some (denL cs).toArray := by
  induction parts generalizing cells with
  | nil => exact ⟨cells, h, rfl, rfl⟩
  | cons p parts ih =>
    obtain ⟨i, o⟩ := p
    obtain ⟨x, h1, h2⟩ := evK_spec hs h
    split at h1
    · rename_i off size hp
      split at h1
      · rename_i he _
        obtain ⟨h3, h4⟩ := putK_spec h1
        obtain ⟨cs, h5, h6, h7⟩ := ih h4
        refine ⟨cs, h5, ?_, ?_⟩
        · rw [h6]; simp; omega
        · simp only [List.map_cons, Instr.fill, hp, h2, den_cells]
          have hsz : (denL x.cells).toArray.size = size := by simp [denL_length, he]
          have hn : ¬ ((denL x.cells).toArray.size ≠ size ∨ off + (denL x.cells).toArray.size > (denL cells).toArray.size) := by
            simp [denL_length, he]; omega
          rw [if_neg (by simpa using hn)]
          rw [← h7]
          congr 1
          have hf := fold_put (denL x.cells) (denL cells).toArray off 0 (by simp [denL_length]; omega)
          simp only [Nat.add_zero] at hf
          have hz : (denL x.cells).toArray.zipIdx = ((denL x.cells).zipIdx 0).toArray := by simp
          rw [hz, List.foldl_toArray']
          · refine hf.trans ?_
            congr 1
            simp [denL_eq]
          · simp
      · exact h1.elim
    · exact h1.elim

theorem nthP_eq (ps : List (Nat × Nat)) (i : Nat) : nthP ps i = ps[i]? := by
  induction ps generalizing i with
  | nil => simp [nthP]
  | cons p ps ih => cases i <;> simp [nthP, ih]
theorem placesT_eq {fs : List Field} {ps : List (Nat × Nat)} (h : placesT P fs = some ps) : fs.mapM (fun f => (P.info? f.type).map fun i => (f.offset, i.size)) = some ps := by
  induction fs generalizing ps with
  | nil => simp [placesT] at h; subst h; rfl
  | cons f fs ih =>
    simp only [placesT] at h
    split at h
    · rename_i s qs h1 h2
      injection h with h
      subst h
      unfold szT at h1
      split at h1
      · rename_i i hi
        rw [litO_eq] at h1
        injection h1 with h1
        subst h1
        simp [hi, ih h2]
      · cases h1
    · cases h
theorem szT_info {t : TypeId} {s : Nat} (h : szT P t = some s) : ∃ i, P.info? t = some i ∧ i.size = s := by
  unfold szT at h
  split at h
  · rename_i i hi
    rw [litO_eq] at h
    injection h with h
    exact ⟨i, hi, h⟩
  · cases h
theorem zeroT_info {t : TypeId} {z : AV} (h : zeroT P t = some z) : ∃ i v, P.info? t = some i ∧ i.zero = some v ∧ v = z.den := by
  unfold zeroT at h
  split at h
  · rename_i i hi
    split at h
    · rename_i v hv
      injection h with h
      exact ⟨i, v, hi, hv, by rw [← h, ofVal_den]⟩
    · cases h
  · cases h

theorem buildK_spec {sl : List AV} {a : Act} (hs : SlotsOk sl a.tmps) {t : TypeId} {parts : Array (Nat × Operand)} {K : AV → Prop} (h : buildK P sl t parts.toList K) :
    ∃ v : AV, K v ∧ ∀ w, (Instr.build t (parts.map fun (i, x) => (i, a.eval x))).run P w = .ok v.den w := by
  unfold buildK at h
  split at h
  · rename_i z fs hz hu
    obtain ⟨i, v, hi, hv, rfl⟩ := zeroT_info hz
    split at h
    · rename_i ps hps
      obtain ⟨cs, h1, _, h2⟩ := fillK_spec hs (forceK_spec (boxK_spec h))
      refine ⟨_, h1, fun w => run_build w t _ _ ?_⟩
      unfold Program.built
      simp only [hi, hu, hv, placesT_eq hps, den_cells, Array.toList_map]
      rw [← h2]
      congr 1
      funext j
      simp [nthP_eq]
    · exact h.elim
  · rename_i z n e hz hu
    obtain ⟨i, v, hi, hv, rfl⟩ := zeroT_info hz
    split at h
    · rename_i s hsz
      obtain ⟨ie, hie, rfl⟩ := szT_info hsz
      obtain ⟨cs, h1, _, h2⟩ := fillK_spec hs (forceK_spec (boxK_spec h))
      refine ⟨_, h1, fun w => run_build w t _ _ ?_⟩
      unfold Program.built
      simp only [hi, hu, hv, hie, den_cells, Array.toList_map]
      rw [← h2]
    · exact h.elim
  · exact h.elim

theorem lenK_spec {m : List Blk} {t : TypeId} {x : AV} {K : AV → Prop} (h : lenK P m t x K) :
    ∃ v : AV, K v ∧ ∀ w, MemOk m w → ∀ ty, (Builtin.len_ #[t] ty #[x.den]).run P w = .ok v.den w := by
  unfold lenK at h
  split at h
  · rename_i ht
    split at h
    · rename_i s
      exact ⟨_, h, fun w _ ty => by
        have := run_len_string (P := P) w t ty ⟨s.toArray⟩ ht
        rw [show (⟨s.toArray⟩ : ByteArray).size = s.length from by simp [ByteArray.size]] at this
        simpa [AV.den, goInt] using this⟩
    · exact h.elim
  · rename_i n e ht
    exact ⟨_, h, fun w _ ty => by simp [Builtin.len_, run_underlying ht, AV.den, goInt]⟩
  · rename_i e ht
    obtain ⟨n, hK, hv⟩ := chkK_spec h
    refine ⟨_, hK, fun w hm ty => ?_⟩
    obtain ⟨A, c, hd, _⟩ := hv w hm
    rw [hd]
    simp [Builtin.len_, run_underlying ht, AV.den, goInt]
  · exact h.elim

theorem maxK_spec {isMax : Bool} {xs : List AV} {x : AV} {K : AV → Prop} (h : maxK isMax x xs K) :
    ∃ v : AV, K v ∧ ∀ w, ((denL xs).foldlM (if isMax then Builtin.max2 else Builtin.min2) x.den : Sem Value).run P w = .ok v.den w := by
  induction xs generalizing x with
  | nil => exact ⟨x, by cases x <;> exact h, fun w => by simp [denL]⟩
  | cons y xs ih =>
    unfold maxK at h
    split at h
    · rename_i e; cases e
    · rename_i k a k' b rest heq
      injection heq with h1 h2
      subst h1; subst h2
      split at h
      · rw [NV_iff] at h
        obtain ⟨v, hK, hr⟩ := ih h
        refine ⟨v, hK, fun w => ?_⟩
        have := hr w
        have e : (if b > a then b else a) = max a b := by simp only [Int.max_def]; split <;> split <;> omega
        simp only [if_true, AV.den] at this
        simp only [denL, List.foldlM_cons, if_true, Sem.run_bind, AV.den, Builtin.max2, Sem.run_pure, Result.andThen_ok, e]
        exact this
      · rw [NV_iff] at h
        obtain ⟨v, hK, hr⟩ := ih h
        refine ⟨v, hK, fun w => ?_⟩
        have := hr w
        have e : (if b < a then b else a) = min a b := by simp only [Int.min_def]; split <;> split <;> omega
        simp only [Bool.false_eq_true, if_false, AV.den] at this
        simp only [denL, List.foldlM_cons, Bool.false_eq_true, if_false, Sem.run_bind, AV.den, Builtin.min2, Sem.run_pure, Result.andThen_ok, e]
        exact this
    · exact h.elim

end
end Go.Sx

namespace Go.Sx
open Go.RowKit
section
variable {P : Program}

theorem run_value {s : Sem Value} {w w' : World} {v : Value} (h : s.run P w = .ok v w') : (do pure (Next.value (← s)) : Sem Next).run P w = .ok (.value v) w' := by
  simp only [Sem.run_bind, h, Result.andThen_ok, Sem.run_pure]

theorem map_toArray_eval {a : Act} {os : Array Operand} {xs : List AV} (h : os.toList.map a.eval = denL xs) : os.map a.eval = (denL xs).toArray := by
  apply Array.toList_inj.1; rw [Array.toList_map, h]

theorem opV_spec {sl : List AV} {m : List Blk} {a : Act} (hs : SlotsOk sl a.tmps) {op : Op} {K : AV → Prop} (h : opV P sl m op K) :
    ∃ v : AV, K v ∧ ∀ w, MemOk m w → ∀ o : Oper, o.op = op → (execOp a.eval o).run P w = .ok (.value v.den) w := by
  cases op with
  | move x =>
    obtain ⟨v, h1, h2⟩ := evK_spec hs h
    exact ⟨v, h1, fun w _ o ho => by simp only [execOp, ho, h2, Sem.run_pure]⟩
  | assign x =>
    obtain ⟨v, h1, h2⟩ := evK_spec hs h
    exact ⟨v, h1, fun w _ o ho => by simp only [execOp, ho, h2, Sem.run_pure]⟩
  | pick c x y =>
    obtain ⟨v, h1, h2⟩ := evK_spec hs h
    cases v <;> try exact h1.elim
    rename_i t
    simp only [NIf_iff] at h1
    cases t
    · obtain ⟨u, h3, h4⟩ := evK_spec hs (h1.2 rfl)
      exact ⟨u, h3, fun w _ o ho => by simp [execOp, ho, h2, h4, AV.den, asBool]⟩
    · obtain ⟨u, h3, h4⟩ := evK_spec hs (h1.1 rfl)
      exact ⟨u, h3, fun w _ o ho => by simp [execOp, ho, h2, h4, AV.den, asBool]⟩
  | binOp op t x y yt =>
    simp only [opV] at h
    split at h
    · rename_i n hc
      obtain ⟨u, h1, h2⟩ := evK_spec hs h
      obtain ⟨r, h5, k, b, k', h6, rfl, h7, h8⟩ := shiftC_spec (P := P) hc h1
      refine ⟨r, h5, fun w _ o ho => ?_⟩
      simp only [execOp, ho, h2, h6]
      refine run_value ?_
      rw [Sem.run_bind, run_eqGuard_plain _ _ _ _ _ _ (by simp) (by simp)]
      simp only [Result.andThen_ok, Act.eval]
      cases op <;> simp [isShift] at h7 <;> simpa [binOp] using h8 w
    · obtain ⟨u, h1, h2⟩ := evK_spec hs h
      obtain ⟨v, h3, h4⟩ := evK_spec hs h1
      obtain ⟨r, h5, h6⟩ := binK_spec h3
      exact ⟨r, h5, fun w _ o ho => by simp only [execOp, ho, h2, h4]; exact run_value (h6 w x y)⟩
  | unOp op t x =>
    obtain ⟨u, h1, h2⟩ := evK_spec hs h
    obtain ⟨r, h5, h6⟩ := unK_spec (P := P) h1
    exact ⟨r, h5, fun w _ o ho => by simp only [execOp, ho, h2]; exact run_value (h6 w)⟩
  | convert src dst x =>
    obtain ⟨u, h1, h2⟩ := evK_spec hs h
    obtain ⟨r, h5, h6⟩ := convK_spec h1
    exact ⟨r, h5, fun w hm o ho => by simp only [execOp, ho, h2]; exact run_value (h6 w hm)⟩
  | slice t x lo hi mx =>
    cases mx with
    | some _ => exact h.elim
    | none =>
      obtain ⟨u, h1, h2⟩ := evK_spec hs h
      cases lo with
      | none =>
        cases hi with
        | none =>
          obtain ⟨r, h5, h6⟩ := sliceK_spec h1
          exact ⟨r, h5, fun w hm o ho => by simp only [execOp, ho, h2, Option.map_none]; exact run_value (h6 w hm)⟩
        | some hi =>
          obtain ⟨v, h3, h4⟩ := evK_spec hs h1
          obtain ⟨r, h5, h6⟩ := sliceK_spec h3
          exact ⟨r, h5, fun w hm o ho => by simp only [execOp, ho, h2, h4, Option.map_none, Option.map_some]; exact run_value (h6 w hm)⟩
      | some lo =>
        cases hi with
        | none =>
          obtain ⟨v, h3, h4⟩ := evK_spec hs h1
          obtain ⟨r, h5, h6⟩ := sliceK_spec h3
          exact ⟨r, h5, fun w hm o ho => by simp only [execOp, ho, h2, h4, Option.map_none, Option.map_some]; exact run_value (h6 w hm)⟩
        | some hi =>
          obtain ⟨v, h3, h4⟩ := evK_spec hs h1
          obtain ⟨v', h3', h4'⟩ := evK_spec hs h3
          obtain ⟨r, h5, h6⟩ := sliceK_spec h3'
          exact ⟨r, h5, fun w hm o ho => by simp only [execOp, ho, h2, h4, h4', Option.map_none, Option.map_some]; exact run_value (h6 w hm)⟩
  | fieldAddr s x f =>
    obtain ⟨u, h1, h2⟩ := evK_spec hs h
    obtain ⟨r, h5, h6⟩ := fieldAddrK_spec h1
    exact ⟨r, h5, fun w hm o ho => by simp only [execOp, ho, h2]; exact run_value (h6 w)⟩
  | field s x f =>
    obtain ⟨u, h1, h2⟩ := evK_spec hs h
    obtain ⟨r, h5, h6⟩ := fieldK_spec h1
    exact ⟨r, h5, fun w hm o ho => by simp only [execOp, ho, h2]; exact run_value (h6 w)⟩
  | indexAddr t x i =>
    obtain ⟨u, h1, h2⟩ := evK_spec hs h
    obtain ⟨v, h3, h4⟩ := evK_spec hs h1
    obtain ⟨k, n, e, h3⟩ := intOfK_spec h3
    obtain ⟨r, h5, h6⟩ := indexAddrK_spec (k := k) h3
    exact ⟨r, h5, fun w hm o ho => by simp only [execOp, ho, h2, h4, e]; exact run_value (h6 w hm)⟩
  | index t x i =>
    obtain ⟨u, h1, h2⟩ := evK_spec hs h
    obtain ⟨v, h3, h4⟩ := evK_spec hs h1
    obtain ⟨k, n, e, h3⟩ := intOfK_spec h3
    obtain ⟨r, h5, h6⟩ := indexK_spec (k := k) h3
    exact ⟨r, h5, fun w hm o ho => by simp only [execOp, ho, h2, h4, e]; exact run_value (h6 w)⟩
  | extract x i =>
    obtain ⟨u, h1, h2⟩ := evK_spec hs h
    cases u <;> try exact h1.elim
    obtain ⟨r, h5, h6⟩ := nthK_spec h1
    exact ⟨r, h6, fun w hm o ho => by simp [execOp, ho, h2, Instr.extract, AV.den, denL_getElem?, h5]⟩
  | load t x =>
    obtain ⟨u, h1, h2⟩ := evK_spec hs h
    obtain ⟨r, h5, _, h6⟩ := loadK_spec h1
    exact ⟨r, h5, fun w hm o ho => by simp only [execOp, ho, h2]; exact run_value (h6 w hm)⟩
  | nilCheck x =>
    obtain ⟨u, h1, h2⟩ := evK_spec hs h
    cases u <;> try exact h1.elim
    all_goals exact ⟨_, h1, fun w hm o ho => by simp only [execOp, ho, h2, AV.den, Sem.run_pure]⟩
  | build t parts =>
    obtain ⟨r, h5, h6⟩ := buildK_spec hs h
    exact ⟨r, h5, fun w hm o ho => by simp only [execOp, ho]; exact run_value (h6 w)⟩
  | makeFunc fn first captured =>
    cases fn <;> try exact h.elim
    obtain ⟨xs, h1, h2⟩ := evLK_spec hs h
    obtain ⟨ys, h3, h4⟩ := evLK_spec hs h1
    exact ⟨_, h3, fun w hm o ho => by
      simp only [execOp, ho, map_toArray_eval h2, map_toArray_eval h4, Instr.makeFunc]
      exact run_value (by simp [AV.den])⟩
  | call c =>
    obtain ⟨callee, args, tys⟩ := c
    cases callee with
    | builtin b =>
      cases b <;> try exact h.elim
      case len =>
        simp only [opV] at h
        split at h
        · rename_i x t hx ht
          obtain ⟨u, h1, h2⟩ := evK_spec hs h
          obtain ⟨r, h5, h6⟩ := lenK_spec h1
          refine ⟨r, h5, fun w hm o ho => ?_⟩
          have ha : args = #[x] := by rw [← Array.toArray_toList (xs := args), hx]
          have hb : tys = #[t] := by rw [← Array.toArray_toList (xs := tys), ht]
          simp only [execOp, ho, resolve, ha, hb, Sem.run_bind, Sem.run_pure, Result.andThen_ok, invoke, builtin, List.map_toArray, List.map_cons, List.map_nil, h2]
          rw [h6 w hm]; simp
        · exact h.elim
      case max =>
        obtain ⟨xs, h1, h2⟩ := evLK_spec hs h
        cases xs with
        | nil => exact h1.elim
        | cons x xs =>
          obtain ⟨r, h5, h6⟩ := maxK_spec (P := P) h1
          refine ⟨r, h5, fun w hm o ho => ?_⟩
          have := h6 w
          simp only [if_true] at this
          simp only [execOp, ho, resolve, Sem.run_bind, Sem.run_pure, Result.andThen_ok, invoke, builtin, map_toArray_eval h2, Builtin.max_, denL, this]
      case min =>
        obtain ⟨xs, h1, h2⟩ := evLK_spec hs h
        cases xs with
        | nil => exact h1.elim
        | cons x xs =>
          obtain ⟨r, h5, h6⟩ := maxK_spec (P := P) h1
          refine ⟨r, h5, fun w hm o ho => ?_⟩
          have := h6 w
          simp only [Bool.false_eq_true, if_false] at this
          simp only [execOp, ho, resolve, Sem.run_bind, Sem.run_pure, Result.andThen_ok, invoke, builtin, map_toArray_eval h2, Builtin.min_, denL, this]
    | _ => exact h.elim
  | _ => exact h.elim

end
end Go.Sx

namespace Go.Sx
open Go.RowKit

theorem Blk.foot_of {k : Blk} {b : Nat} (h : k.bn = some b) : k.foot b := by
  unfold Blk.foot
  unfold Blk.bn at h
  split
  · rename_i F hk; rw [hk] at h; cases h
  · rename_i R hk; rw [hk] at h; cases h
  · exact h
theorem Blk.bn_of {k : Blk} {b : Nat} (hk : k.kind.multi = false) (h : k.foot b) : k.bn = some b := by
  unfold Blk.foot at h
  split at h
  · rename_i F h2; rw [h2] at hk; cases hk
  · rename_i R h2; rw [h2] at hk; cases hk
  · exact h
theorem Blk.holds.lt {k : Blk} {w : World} (h : k.holds w) {b : Nat} (hb : k.foot b) : b < w.heap.size := by
  unfold Blk.holds at h
  unfold Blk.foot at hb
  split at hb
  · rename_i F hk
    rw [hk] at h
    rcases hb with ⟨a, u, h1, rfl⟩ | ⟨o, h1⟩
    · exact (h.2.1 a u h1).1
    · exact (Array.getElem?_eq_some_iff.1 (h.2.2 _ o h1)).1
  · rename_i R hk
    rw [hk] at h
    exact R.lt w b h.2 hb
  unfold Blk.bn at hb
  split at h
  · rename_i t hk
    rw [hk] at hb
    injection hb with hb
    subst hb
    exact (Array.getElem?_eq_some_iff.1 h.2.2).1
  · rename_i v t sz n hk
    rw [hk] at hb
    exact (h.1.lt b hb).2
  · rename_i v sz n hk
    rw [hk] at hb
    obtain ⟨_, A, cap, _, _, _, h2⟩ := h
    simp only at hb
    split at hb
    · rename_i hn
      injection hb with hb
      subst hb
      exact (h2 hn).2.1
    · cases hb
  · rename_i F hk
    rw [hk] at hb
    cases hb
  · rename_i o hk
    rw [hk] at hb
    injection hb with hb
    subst hb
    exact (Array.getElem?_eq_some_iff.1 h.2.2.2).1
  · rename_i R hk
    rw [hk] at hb
    cases hb

theorem Blk.holds.keep {k : Blk} {w w' : World} (h : k.holds w) (hsz : w.heap.size ≤ w'.heap.size) (hb : ∀ b, k.foot b → w'.heap[b]? = w.heap[b]?) : k.holds w' := by
  have hlt := fun b (e : k.foot b) => h.lt e
  unfold Blk.holds at h ⊢
  unfold Blk.foot at hb hlt
  unfold Blk.bn at hb hlt
  split at h
  · rename_i t hk
    rw [hk] at hb
    simp only at hb
    exact ⟨h.1, h.2.1, by rw [hb _ rfl]; exact h.2.2⟩
  · rename_i v t sz n hk
    rw [hk] at hb
    simp only at hb
    refine ⟨⟨h.1.1, ?_⟩, h.2⟩
    rcases h.1.2 with hn | ⟨g, cap, cur, rfl, hbg, hg, rest⟩
    · exact .inl hn
    · exact .inr ⟨g, cap, cur, rfl, hbg, by rw [hb g rfl]; exact hg, rest⟩
  · rename_i v sz n hk
    rw [hk] at hb hlt
    obtain ⟨h1, A, cap, h2, h3, h30, h4⟩ := h
    refine ⟨h1, A, cap, h2, h3, h30, fun hn => ?_⟩
    obtain ⟨h5, h6, h7⟩ := h4 hn
    simp only [hn, if_true] at hb
    refine ⟨h5, Nat.lt_of_lt_of_le h6 hsz, fun j u hu => ?_⟩
    rw [← h7 j u hu]
    exact World.cell?_of_block (by rw [block_of_add]; exact hb _ rfl)
  · rename_i F hk
    rw [hk] at hb
    refine ⟨h.1, fun a u hu => ⟨Nat.lt_of_lt_of_le (h.2.1 a u hu).1 hsz, ?_⟩, fun b o ho => ?_⟩
    · rw [← (h.2.1 a u hu).2]
      exact World.cell?_of_block (hb _ (.inl ⟨a, u, hu, rfl⟩))
    · rw [← h.2.2 b o ho]
      exact hb _ (.inr ⟨o, ho⟩)
  · rename_i o hk
    rw [hk] at hb
    simp only at hb
    exact ⟨h.1, h.2.1, h.2.2.1, by rw [hb _ rfl]; exact h.2.2.2⟩
  · rename_i R hk
    rw [hk] at hb
    exact ⟨h.1, R.keep w w' h.2 hsz hb⟩

/-- Old blocks, and a new one behind. -/
theorem MemOk.keep {m : List Blk} {w w' : World} (h : MemOk m w) (hsz : w.heap.size ≤ w'.heap.size) (hb : ∀ k ∈ m, ∀ b, k.foot b → w'.heap[b]? = w.heap[b]?) : MemOk m w' :=
  ⟨fun k hk => (h.holds k hk).keep hsz (hb k hk), h.sep⟩
theorem MemOk.push {m : List Blk} {w w' : World} (h : MemOk m w) (hsz : w.heap.size ≤ w'.heap.size) (hold : ∀ k ∈ m, ∀ b, k.foot b → w'.heap[b]? = w.heap[b]?)
    {k : Blk} (hk : k.holds w') (hnew : ∀ b, k.foot b → w.heap.size ≤ b) : MemOk (m ++ [k]) w' := by
  refine ⟨fun x hx => ?_, ?_⟩
  · rcases List.mem_append.1 hx with hx | hx
    · exact (h.keep hsz hold).holds x hx
    · simp at hx; subst hx; exact hk
  · rw [List.pairwise_append]
    refine ⟨h.sep, by simp, fun x hx y hy => ?_⟩
    simp at hy; subst hy
    intro _ b hxb hyb
    have h1 := (h.holds x hx).lt hxb
    have h2 := hnew b hyb
    omega
/-- One block is another one, of the same number or a new one. -/
theorem MemOk.set {m : List Blk} {w w' : World} (h : MemOk m w) (hsz : w.heap.size ≤ w'.heap.size) {i : Nat} {k0 k : Blk} (hi : m[i]? = some k0) (hwr : k0.wr = true)
    (hold : ∀ b, k0.bn ≠ some b → b < w.heap.size → w'.heap[b]? = w.heap[b]?) (hk : k.holds w') (hkind : k.kind.multi = false) (hbn : k.bn = none ∨ k.bn = k0.bn ∨ ∃ b, k.bn = some b ∧ w.heap.size ≤ b) : MemOk (m.set i k) w' := by
  have hilt : i < m.length := (List.getElem?_eq_some_iff.1 hi).1
  have hik : m[i] = k0 := (List.getElem?_eq_some_iff.1 hi).2
  have hsep : ∀ (a b : Nat) (ha : a < m.length) (hb : b < m.length), a < b → Sep m[a] m[b] := List.pairwise_iff_getElem.1 h.sep
  have hother : ∀ (j : Nat) (hj : j < m.length), j ≠ i → ∀ b, m[j].foot b → k0.bn ≠ some b := fun j hj hji b hb e => by
    rcases Nat.lt_or_gt_of_ne hji with hlt | hgt
    · exact hsep j i hj hilt hlt (by rw [hik]; exact .inr hwr) b hb (by rw [hik]; exact Blk.foot_of e)
    · exact hsep i j hilt hj hgt (by rw [hik]; exact .inl hwr) b (by rw [hik]; exact Blk.foot_of e) hb
  have hnew : ∀ (j : Nat) (hj : j < m.length), j ≠ i → ∀ b, m[j].foot b → k.foot b → False := fun j hj hji b hjb hkb => by
    have e := Blk.bn_of hkind hkb
    rcases hbn with h1 | h1 | ⟨b', h1, h2⟩
    · rw [h1] at e; cases e
    · rw [h1] at e; exact hother j hj hji b hjb e
    · rw [h1] at e
      injection e with e
      have := (h.holds m[j] (List.getElem_mem hj)).lt hjb
      omega
  refine ⟨fun x hx => ?_, ?_⟩
  · obtain ⟨j, hj, rfl⟩ := List.mem_iff_getElem.1 hx
    rw [List.getElem_set]
    split
    · exact hk
    · rename_i hji
      have hj' : j < m.length := by simpa using hj
      exact (h.holds m[j] (List.getElem_mem hj')).keep hsz fun b hb => hold b (hother j hj' (Ne.symm hji) b hb) ((h.holds m[j] (List.getElem_mem hj')).lt hb)
  · rw [List.pairwise_iff_getElem]
    intro a b ha hb hab
    have ha' : a < m.length := by simpa using ha
    have hb' : b < m.length := by simpa using hb
    rw [List.getElem_set, List.getElem_set]
    split
    · rename_i hia
      rw [if_neg (by omega)]
      intro _ c hc1 hc2
      exact hnew b hb' (by omega) c hc2 hc1
    · split
      · rename_i hia hib
        intro _
        exact hnew a ha' (Ne.symm hia)
      · exact hsep a b ha' hb' hab

theorem Fr.refl (S : Nat → Prop) (w : World) : Fr S w w := ⟨rfl, rfl, rfl, Nat.le_refl _, fun _ _ _ => rfl⟩
theorem Fr.trans {S : Nat → Prop} {a b c : World} (h : Fr S a b) (k : Fr S b c) : Fr S a c :=
  ⟨k.os.trans h.os, k.tape.trans h.tape, k.output.trans h.output, Nat.le_trans h.size k.size, fun i hi hs => (k.block i (Nat.lt_of_lt_of_le hi h.size) hs).trans (h.block i hi hs)⟩
/-- What follows may write what may be written, and what is new. -/
theorem Fr.then {S T : Nat → Prop} {a b c : World} (h : Fr S a b) (k : Fr T b c) (hT : ∀ i, T i → S i ∨ a.heap.size ≤ i) : Fr S a c :=
  ⟨k.os.trans h.os, k.tape.trans h.tape, k.output.trans h.output, Nat.le_trans h.size k.size,
    fun i hi hs => (k.block i (Nat.lt_of_lt_of_le hi h.size) (fun ht => (hT i ht).elim hs (fun h => absurd hi (by omega)))).trans (h.block i hi hs)⟩
theorem Fr.alloc (S : Nat → Prop) (w : World) (o : Obj) : Fr S w (w.alloc o) := ⟨rfl, rfl, rfl, by simp, fun k hk _ => Below.heap_alloc w o k hk⟩
theorem Fr.grown {w w' : World} {row : Option Nat} (h : w.grownBy w' row) : Fr (fun b => row = some b) w w' :=
  ⟨h.os, h.tape, h.output, h.size, fun k hk hs => h.block k hk (fun e => hs e.symm)⟩
theorem Fr.setRow (w : World) (g : Nat) (cs : Array Value) : Fr (fun b => b = g) w (w.setRow g cs) :=
  ⟨rfl, rfl, rfl, by simp, fun k _ hk => setRow_other w g k cs hk⟩

theorem wrs_push {m : List Blk} {k : Blk} {b : Nat} (h : wrs (m ++ [k]) b) : wrs m b ∨ k.foot b := by
  obtain ⟨x, hx, h1, h2⟩ := h
  rcases List.mem_append.1 hx with hx | hx
  · exact .inl ⟨x, hx, h1, h2⟩
  · simp at hx; subst hx; exact .inr h2
theorem wrs_set {m : List Blk} {i : Nat} {k : Blk} {b : Nat} (h : wrs (m.set i k) b) : wrs m b ∨ k.foot b := by
  obtain ⟨x, hx, h1, h2⟩ := h
  rcases List.mem_or_eq_of_mem_set hx with hx | hx
  · exact .inl ⟨x, hx, h1, h2⟩
  · subst hx; exact .inr h2
theorem foots_push {m : List Blk} {k : Blk} {b : Nat} (h : foots (m ++ [k]) b) : foots m b ∨ k.foot b := by
  obtain ⟨x, hx, h1⟩ := h
  rcases List.mem_append.1 hx with hx | hx
  · exact .inl ⟨x, hx, h1⟩
  · simp at hx; subst hx; exact .inr h1
theorem foots_set {m : List Blk} {i : Nat} {k : Blk} {b : Nat} (h : foots (m.set i k) b) : foots m b ∨ k.foot b := by
  obtain ⟨x, hx, h1⟩ := h
  rcases List.mem_or_eq_of_mem_set hx with hx | hx
  · exact .inl ⟨x, hx, h1⟩
  · subst hx; exact .inr h1
theorem foots_wr {m : List Blk} {b : Nat} (h : wrs m b) : foots m b := by
  obtain ⟨k, hk, _, h2⟩ := h
  exact ⟨k, hk, h2⟩
theorem Fresh.push {S : Own} {w0 : World} {m : List Blk} (h : Fresh S w0 m) {k : Blk} (hkind : k.kind.multi = false) (hk : ∀ b, k.bn = some b → w0.heap.size ≤ b) : Fresh S w0 (m ++ [k]) :=
  ⟨fun b hb => (wrs_push hb).elim (h.1 b) fun e => .inr (hk b (Blk.bn_of hkind e)), fun b hb => (foots_push hb).elim (h.2 b) fun e => .inr (hk b (Blk.bn_of hkind e))⟩
theorem Fresh.set {S : Own} {w0 : World} {m : List Blk} (h : Fresh S w0 m) {i : Nat} {k : Blk} (hkind : k.kind.multi = false) (hk : ∀ b, k.bn = some b → wrs m b ∨ w0.heap.size ≤ b) : Fresh S w0 (m.set i k) :=
  ⟨fun b hb => (wrs_set hb).elim (h.1 b) fun e => (hk b (Blk.bn_of hkind e)).elim (h.1 b) .inr, fun b hb => (foots_set hb).elim (h.2 b) fun e => (hk b (Blk.bn_of hkind e)).elim (fun h2 => h.2 b (foots_wr h2)) .inr⟩

theorem ones_spec {cs : List AV} (h : ones cs = true) : ∀ u ∈ denL cs, u.oneCell' = true := by
  induction cs with
  | nil => simp [denL]
  | cons x cs ih =>
    intro u hu
    simp only [denL, List.mem_cons] at hu
    rcases hu with rfl | hu
    · cases x <;> simp [ones] at h <;> simp [AV.den, Value.oneCell']
      case raw v => simpa [Value.oneCell'] using h.1
      case sl i v n => cases v <;> simp [slOf]
      case view i v sz lo hi => cases v <;> simp [cutSl, slOf]
      case hs v n => cases v <;> simp [slOf]
    · refine ih ?_ u hu
      cases x <;> simp [ones] at h <;> first | exact h | exact h.2

end Go.Sx

namespace Go.Sx
open Go.RowKit
section
variable {P : Program}

/-- What an operation leaves. -/
structure Left (S : Own) (w0 : World) (K : AV → List Blk → Prop) (v : AV) (m : List Blk) (w : World) : Prop where
  k : K v m
  mem : MemOk m w
  fr : Fr S.w w0 w
  fresh : Fresh S w0 m

theorem alloc_spec {m : List Blk} {w w0 : World} {S : Own} (hm : MemOk m w) (hf : Fr S.w w0 w) (hr : Fresh S w0 m) {t : TypeId} {cs : List AV} {K : AV → List Blk → Prop} (h : allocK m t cs K) :
    ∃ v m' , v.den = .pointer (some ⟨w.heap.size, 0, none⟩) ∧ Left S w0 K v m' (w.alloc (.cells (denL cs).toArray t)) := by
  have h1 := appK_spec (lenLK_spec h w.heap.size)
  refine ⟨_, _, by simp [AV.den, Addr.add], h1, ?_, hf.trans (Fr.alloc S.w w _), ?_⟩
  · refine hm.push (by simp) (fun k hk b hb => Below.heap_alloc _ _ _ ((hm.holds k hk).lt hb)) ?_ (fun b hb => ?_)
    · exact ⟨rfl, rfl, heap_alloc_new w _⟩
    · simp [Blk.foot, Blk.bn] at hb; omega
  · refine hr.push rfl fun b hb => ?_
    simp [Blk.bn] at hb
    have := hf.size
    omega

theorem run_newVar (w : World) (t : TypeId) (x : AV) : (newVar t x.den).run P w = .ok ⟨w.heap.size, 0, none⟩ (w.alloc (.cells (denL x.cells).toArray t)) := by
  simp [newVar, newRow, den_cells]

theorem splice_take {α : Type} (D R v : List α) (o : Nat) (h : o + v.length ≤ D.length) :
    ((D ++ R).take o ++ v ++ (D ++ R).drop (o + v.length)).take D.length = D.take o ++ v ++ D.drop (o + v.length) := by
  have h1 : (D ++ R).take o = D.take o := List.take_append_of_le_length (by omega)
  have h2 : (D ++ R).drop (o + v.length) = D.drop (o + v.length) ++ R := List.drop_append_of_le_length h
  rw [h1, h2, ← List.append_assoc]
  have hl : (D.take o ++ v ++ D.drop (o + v.length)).length = D.length := by simp; omega
  rw [← hl]
  exact List.take_left

theorem storeK_spec {m : List Blk} {w w0 : World} {S : Own} (hm : MemOk m w) (hf : Fr S.w w0 w) (hr : Fresh S w0 m) {t : TypeId} {p x : AV} {K : List Blk → Prop} (h : storeK P m t p x K) :
    ∃ w' m', (Instr.storeAt t p.den x.den).run P w = .ok () w' ∧ Left S w0 (fun _ m => K m) (.raw undef) m' w' := by
  unfold storeK at h
  split at h
  · rename_i j a off sz hs
    obtain ⟨b, hb, hq⟩ := blkK_spec h
    have hq : (match b.kind with
        | .ro .. => False
        | .heap _ => False
        | .obj _ => False
        | .res _ => False
        | .var _ => NH (b.a = a ∧ x.cells.length = sz ∧ ones x.cells = true) (putK b.cs off x.cells fun cs => setBlkK m j { b with cs := cs } K)
        | .row .. => NH (b.a = a ∧ x.cells.length = sz ∧ ones x.cells = true) (putK b.cs off x.cells fun cs => setBlkK m j { b with cs := cs } K)) := by
      clear hb
      obtain ⟨a', bcs, kd⟩ := b
      cases kd with
      | var t' => exact boxK_spec hq
      | row v' t' sz' n' => exact boxK_spec hq
      | ro v' sz' n' => exact hq
      | heap F => exact hq
      | obj o => exact hq
      | res R => exact hq
    have hmem := List.mem_of_getElem? hb
    have hh := hm.holds b hmem
    have hbS : ∀ g, b.wr = true → b.bn = some g → S.w g ∨ w0.heap.size ≤ g := fun g h1 h2 => hr.1 g ⟨b, hmem, h1, Blk.foot_of h2⟩
    have key : ∀ (g : Nat) (cur : Array Value) (bt : TypeId), b.wr = true → b.kind.multi = false → b.bn = some g → b.a = ⟨g, 0, none⟩ → w.heap[g]? = some (.cells cur bt (0, 0)) → cur.toList.take b.cs.length = denL b.cs → b.a = a → x.cells.length = sz → ones x.cells = true →
        (∀ cs : List AV, cs.length = b.cs.length → ∀ cur', cur'.size = cur.size → cur'.toList.take cs.length = denL cs → ({ b with cs := cs } : Blk).holds (w.setRow g cur')) →
        (putK b.cs off x.cells fun cs => setBlkK m j { b with cs := cs } K) → ∃ w' m', (Instr.storeAt t (AV.ptr j a off).den x.den).run P w = .ok () w' ∧ Left S w0 (fun _ m => K m) (.raw undef) m' w' := by
      intro g cur bt hwr hbk hbn hba hg hcur hab hsz hones hholds hK
      obtain ⟨h1, h2⟩ := putK_spec hK
      obtain ⟨_, h3⟩ := setBlkK_spec h2
      subst hab
      have hlen : b.cs.length ≤ cur.size := by
        have := congrArg List.length hcur
        simp [denL_length] at this
        omega
      have hst := run_storeCells_at P g off bt (denL x.cells) 0 cur w hg (by rw [denL_length]; omega) (ones_spec hones)
      have hadd : b.a.add off = ⟨g, off, none⟩ := by rw [hba]; unfold Addr.add; split <;> simp_all
      refine ⟨w.setRow g (cur.toList.take (off + 0) ++ denL x.cells ++ cur.toList.drop (off + 0 + (denL x.cells).length)).toArray, _, ?_, h3, ?_, ?_, ?_⟩
      · simp only [Instr.storeAt, AV.den, Instr.sureAddr, Sem.run_bind, Sem.run_pure, Result.andThen_ok, storeVar, run_sizeOf hs]
        have hne : ¬ (x.den.cells.size ≠ sz) := by rw [den_cells]; simp [denL_length, hsz]
        rw [if_neg hne]
        simp only [hadd, den_cells]
        exact hst
      · refine hm.set (by simp) hb hwr (fun c hc hlt => setRow_other w g c _ (fun e => hc (by rw [hbn, e]))) ?_ hbk (.inr (.inl ?_))
        · refine hholds _ ?_ _ ?_ ?_
          · simp; omega
          · simp [denL_length]; omega
          · have e1 : denL (b.cs.take off ++ x.cells ++ b.cs.drop (off + x.cells.length)) = (denL b.cs).take off ++ denL x.cells ++ (denL b.cs).drop (off + (denL x.cells).length) := by simp [denL_eq]
            have e2 : cur.toList = denL b.cs ++ cur.toList.drop b.cs.length := by rw [← hcur]; exact (List.take_append_drop _ _).symm
            have e3 : (b.cs.take off ++ x.cells ++ b.cs.drop (off + x.cells.length)).length = (denL b.cs).length := by simp [denL_length]; omega
            rw [e1, e3, Nat.add_zero, e2]
            exact splice_take _ _ _ _ (by rw [denL_length, denL_length]; exact h1)
        · show ({ b with cs := _ } : Blk).bn = b.bn
          rfl
      · refine hf.then (Fr.setRow w g _) fun i hi => ?_
        subst hi
        exact hbS _ hwr hbn
      · exact hr.set hbk fun c hc => .inl ⟨b, hmem, hwr, Blk.foot_of hc⟩
    split at hq
    · exact hq.elim
    · exact hq.elim
    · exact hq.elim
    · exact hq.elim
    · rename_i bt hk
      rw [NH_iff] at hq
      obtain ⟨⟨h1, h2, h3⟩, h4⟩ := hq
      have hh' := hh
      unfold Blk.holds at hh'
      rw [hk] at hh'
      obtain ⟨h5, h6, h7⟩ := hh'
      refine key b.a.block _ bt (by simp [Blk.wr, hk]) (by simp [Kind.multi, hk]) (by simp [Blk.bn, hk]) (by cases hba : b.a; rw [hba] at h5 h6; simp at h5 h6; subst h5; subst h6; rfl) h7 (by simp [List.take_of_length_le, denL_length]) h1 h2 h3 (fun cs hcs cur' hsz' htk => ?_) h4
      unfold Blk.holds
      simp only [hk]
      refine ⟨h5, h6, ?_⟩
      rw [setRow_heap w _ _ cur' bt _ h7]
      congr 2
      have : cur'.toList.length = cs.length := by simp [hsz', hcs, denL_length]
      rw [← htk, ← this, List.take_length]
    · rename_i v bt sz' n hk
      rw [NH_iff] at hq
      obtain ⟨⟨h1, h2, h3⟩, h4⟩ := hq
      have hh' := hh
      unfold Blk.holds at hh'
      rw [hk] at hh'
      obtain ⟨⟨h5, h6⟩, h7⟩ := hh'
      rcases h6 with ⟨hv, hn⟩ | ⟨g, cap, cur, hv, hbg, hg, hc1, hc2, hc3, hc4⟩
      · subst hn
        obtain ⟨h8, h9⟩ := putK_spec h4
        have hcs : b.cs = [] := by simpa [denL_length] using h5
        have hx0 : x.cells = [] := by rw [hcs] at h8; simp at h8; exact h8.2
        have ho0 : off = 0 := by rw [hcs] at h8; simp at h8; exact h8.1
        subst ho0
        have e : ({ b with cs := b.cs.take 0 ++ x.cells ++ b.cs.drop (0 + x.cells.length) } : Blk) = b := by rw [hx0]; cases b; simp
        rw [e] at h9
        have h10 := (setBlkK_spec h9).2
        have e2 : m.set j b = m := by
          apply List.ext_getElem?; intro i
          rw [List.getElem?_set]
          split
          · rename_i hji; subst hji
            split
            · exact hb.symm
            · rename_i hl; exact absurd (List.getElem?_eq_some_iff.1 hb).1 hl
          · rfl
        rw [e2] at h10
        refine ⟨w, _, ?_, h10, hm, hf, hr⟩
        simp only [Instr.storeAt, AV.den, Instr.sureAddr, Sem.run_bind, Sem.run_pure, Result.andThen_ok, storeVar, run_sizeOf hs]
        have hne : ¬ (x.den.cells.size ≠ sz) := by rw [den_cells]; simp [denL_length, h2]
        rw [if_neg hne]
        simp [den_cells, hx0, denL, storeCells]
      · refine key g cur bt (by simp [Blk.wr, hk]) (by simp [Kind.multi, hk]) (by simp [Blk.bn, hk, hv, Value.ownBlock]) (by rw [h7, hv]; rfl) hg (by rw [← denL_length, h5]; exact hc4) h1 h2 h3 (fun cs hcs cur' hsz' htk => ?_) h4
        unfold Blk.holds
        simp only [hk]
        refine ⟨⟨by rw [denL_length, hcs, ← denL_length]; exact h5, .inr ⟨g, cap, cur', hv, hbg, setRow_heap w g _ cur' bt _ hg, hc1, hc2, by rw [hsz', hc3], ?_⟩⟩, h7⟩
        rw [← htk, hcs, ← denL_length, h5]
  · exact h.elim

end
end Go.Sx

namespace Go.Sx
open Go.RowKit
section
variable {P : Program}

theorem bytesT_info {t : TypeId} {b : Nat} (h : bytesT P t = some b) : ∃ i, P.info? t = some i ∧ i.bytes = b := by
  unfold bytesT at h
  split at h
  · rename_i i hi
    rw [litO_eq] at h
    injection h with h
    exact ⟨i, hi, h⟩
  · cases h

/-- append onto a row of the call's own, from whatever is read. -/
theorem run_append_reads (w : World) (t ty e : TypeId) (i : TypeInfo) (z : Value) (size bytes : Nat) (ht : P.underlying t = some (.slice e)) (hi : P.info? e = some i) (hz : i.zero = some z)
    (hsize : i.size = size) (hby : i.bytes = bytes) (hzs : z.cells.size = size) (hsz : 0 < size) (v : Value) (n : Nat) (xs : List Value) (hown : w.ownsRow 0 e size v n xs)
    (x : Value) (m : Nat) (news : List Value) (hr : ReadsV w size x m news) (h1 : ∀ u ∈ news, u.oneCell' = true) (h63 : n + m ≤ maxLen) (hbytes : (n + m) * bytes ≤ 140737488355328) :
    ∃ v' w', (Builtin.append_ #[t, t] ty #[v, x]).run P w = .ok v' w' ∧ w'.ownsRow 0 e size v' (n + m) (xs ++ news) ∧ w.grownBy w' v.ownBlock ∧ (v'.ownBlock = v.ownBlock ∨ v'.ownBlock = some w.heap.size) := by
  obtain ⟨hl, A, cap, rfl, hc, h0, hA⟩ := hr
  cases A with
  | none =>
    have := h0 rfl; subst this
    have hm : m = 0 := by omega
    subst hm
    have hn : news = [] := List.eq_nil_of_length_eq_zero (by simpa using hl)
    subst hn
    exact ⟨v, w, run_append_owned_none w 0 t ty e i size ht hi v n xs hown, by simpa using hown, ⟨rfl, rfl, rfl, Nat.le_refl _, fun _ _ _ => rfl⟩, .inl rfl⟩
  | some a =>
    have hnews : ∀ j u, news[j]? = some u → w.cell? (a.add j) = some u := by
      intro j u hu
      rcases Nat.eq_zero_or_pos m with h | h
      · subst h
        have hn : news = [] := List.eq_nil_of_length_eq_zero (by simpa using hl)
        rw [hn] at hu; simp at hu
      · obtain ⟨a', e, _, hc⟩ := hA h
        injection e with e; subst e
        exact hc j u hu
    obtain ⟨v', w', hrun, h2, h3, _, h5⟩ := run_append_own_at (P := P) w 0 t ty e i z size bytes ht hi hz hsize hby hzs hsz v n xs hown a m cap news hl hnews h1 h63 hbytes (Nat.zero_le _)
    exact ⟨v', w', hrun, h2, h3, h5⟩

theorem appendK_spec {m : List Blk} {w w0 : World} {S : Own} (hm : MemOk m w) (hf : Fr S.w w0 w) (hr : Fresh S w0 m) {t : TypeId} {s x : AV} {K : AV → List Blk → Prop} (h : appendK P m t s x K) (ty : TypeId) :
    ∃ v m' w', (Builtin.append_ #[t, t] ty #[s.den, x.den]).run P w = .ok v.den w' ∧ Left S w0 K v m' w' := by
  unfold appendK at h
  split at h
  · rename_i e ht
    split at h
    · rename_i sz by_ z c hsz hby hz hlen
      obtain ⟨i, hi, hi1⟩ := szT_info hsz
      obtain ⟨i', hi', hi2⟩ := bytesT_info hby
      obtain ⟨i'', zv, hi'', hi3, hi4⟩ := zeroT_info hz
      rw [hi] at hi' hi''
      injection hi' with hi'; injection hi'' with hi''
      subst hi'; subst hi''
      split at h
      · rename_i i v n
        obtain ⟨b, hb, hq⟩ := blkK_spec h
        have hmem := List.mem_of_getElem? hb
        split at hq
        · rename_i v' e' sz' n' hk
          obtain ⟨news, c', hK, hlen', hrd⟩ := elemsK_spec hq
          rw [hlen] at hlen'
          injection hlen' with hlen'; subst hlen'
          rw [NH_iff] at hK
          obtain ⟨⟨rfl, rfl, rfl, rfl, hpos, h5, h6, h7, h8⟩, h9⟩ := hK
          have hh := hm.holds b hmem
          unfold Blk.holds at hh
          rw [hk] at hh
          obtain ⟨hown, ha⟩ := hh
          obtain ⟨v2, w', hrun, h10, h11, h12⟩ := run_append_reads (P := P) w t ty e' _ zv sz' by_ ht hi hi3 hi1 hi2 (by rw [hi4, den_cells]; simp [denL_length, h6]) hpos v' n' _ hown x.den c (denL news) (hrd w hm) (ones_spec h5) (by simp only [maxLen]; omega) h7
          obtain ⟨_, h13⟩ := setBlkK_spec (h9 v2)
          have hslv : ∀ u : Value, u.ownBlock = none ∨ True := fun _ => .inr trivial
          have hsl : slOf v' = v' := by rcases hown.2 with ⟨rfl, _⟩ | ⟨g, cap, cur, rfl, _⟩ <;> rfl
          have hsl2 : slOf v2 = v2 := by rcases h10.2 with ⟨rfl, _⟩ | ⟨g, cap, cur, rfl, _⟩ <;> rfl
          refine ⟨_, _, w', ?_, h13, ?_, ?_, ?_⟩
          · simp only [AV.den, hsl, hsl2]; exact hrun
          · refine hm.set h11.size hb (by simp [Blk.wr, hk]) (fun g hg hlt => h11.block g hlt (fun e => hg (by simp [Blk.bn, hk, ← e]))) ?_ ?_ ?_
            · refine ⟨?_, rfl⟩
              show w'.ownsRow 0 e' sz' v2 (n' + c) (denL (b.cs ++ news))
              rw [denL_append]; exact h10
            · rfl
            · rcases h12 with h12 | h12
              · exact .inr (.inl (by simp [Blk.bn, hk, h12]))
              · exact .inr (.inr ⟨_, h12, Nat.le_refl _⟩)
          · refine hf.then (Fr.grown h11) fun g hg => hr.1 g ⟨b, hmem, by simp [Blk.wr, hk], by simp [Blk.foot, Blk.bn, hk, hg]⟩
          · refine hr.set rfl fun g hg => ?_
            simp only [Blk.bn] at hg
            rcases h12 with h12 | h12
            · exact .inl ⟨b, hmem, by simp [Blk.wr, hk], by simp [Blk.foot, Blk.bn, hk, ← h12, hg]⟩
            · rw [h12] at hg; injection hg with hg; subst hg; exact .inr hf.size
        · exact hq.elim
      · obtain ⟨news, c', hK, hlen', hrd⟩ := elemsK_spec h
        rw [hlen] at hlen'
        injection hlen' with hlen'; subst hlen'
        rw [NH_iff] at hK
        obtain ⟨⟨hpos, h5, h6, h7, h8⟩, h9⟩ := hK
        obtain ⟨v2, w', hrun, h10, h11, h12⟩ := run_append_reads (P := P) w t ty e _ zv sz by_ ht hi hi3 hi1 hi2 (by rw [hi4, den_cells]; simp [denL_length, h6]) hpos (.slice none 0 0) 0 [] (World.ownsRow_nil w 0 e sz) x.den c (denL news) (hrd w hm) (ones_spec h5) (by simp only [maxLen]; omega) (by simpa using h7)
        have h13 := appK_spec (lenLK_spec h9 v2)
        rw [Nat.zero_add, List.nil_append] at h10
        have hsl2 : slOf v2 = v2 := by rcases h10.2 with ⟨rfl, _⟩ | ⟨g, cap, cur, rfl, _⟩ <;> rfl
        have hnew : ∀ g, v2.ownBlock = some g → w.heap.size ≤ g := fun g hg => by
          rcases h12 with h12 | h12
          · rw [h12] at hg; simp [Value.ownBlock] at hg
          · rw [h12] at hg; injection hg with hg; omega
        refine ⟨_, _, w', ?_, h13, ?_, ?_, ?_⟩
        · simp only [AV.den, hsl2]; exact hrun
        · refine hm.push h11.size (fun k hk g hg => h11.block g ((hm.holds k hk).lt hg) (by simp [Value.ownBlock])) ⟨h10, rfl⟩ (fun g hg => hnew g (by simpa [Blk.foot, Blk.bn] using hg))
        · exact hf.then (Fr.grown h11) fun g hg => by simp [Value.ownBlock] at hg
        · exact hr.push rfl fun g hg => Nat.le_trans hf.size (hnew g (by simpa [Blk.bn] using hg))
      · exact h.elim
    · exact h.elim
  · exact h.elim

theorem repCells_length (z : List AV) (n : Nat) : (repCells z n).length = n * z.length := by
  induction n with
  | zero => simp [repCells]
  | succ n ih => simp [repCells, ih, Nat.add_mul, Nat.add_comm]
theorem repCells_get (z : List AV) (n j : Nat) (hj : j < n * z.length) : (repCells z n)[j]? = z[j % z.length]? := by
  induction n generalizing j with
  | zero => simp at hj
  | succ n ih =>
    simp only [repCells]
    rw [List.getElem?_append]
    split
    · rename_i h; rw [Nat.mod_eq_of_lt h]
    · rename_i h
      rw [Nat.add_mul] at hj
      rw [ih _ (by omega)]
      congr 1
      exact (Nat.mod_eq_sub_mod (by omega)).symm
theorem rep_eq (z : List AV) (n : Nat) (hz : 0 < z.length ∨ n = 0) : ((Array.range (n * z.length)).map fun j => (denL z).toArray[j % (denL z).toArray.size]!) = (denL (repCells z n)).toArray := by
  apply Array.ext_getElem?
  intro j
  by_cases hj : j < n * z.length
  · have h1 := repCells_get z n j hj
    have hz' : 0 < z.length := by rcases hz with h | h; exact h; subst h; simp at hj
    have hlt : j % z.length < z.length := Nat.mod_lt _ hz'
    simp only [Array.getElem?_map, Array.getElem?_range, hj, if_true, Option.map_some, List.getElem?_toArray, denL_getElem?, h1, List.size_toArray, denL_length]
    rw [List.getElem?_eq_getElem hlt]
    simp [hlt, denL_eq]
  · have h2 := repCells_length z n
    rw [Array.getElem?_eq_none (by simp; omega), Array.getElem?_eq_none (by simp [denL_length]; omega)]

theorem run_buildSlice {t e : TypeId} (ht : P.underlying t = some (.slice e)) {z : AV} (hz : zeroT P e = some z) {s : Nat} (hsz : szT P e = some s) {len : Nat} (h1 : len * s ≤ 16777216) (h2 : z.cells.length = s)
    {parts : Array (Nat × Value)} {cs : Array Value} (hf : Instr.fill (fun i => some (i * s, s)) (denL (repCells z.cells len)).toArray parts.toList = some cs) (w : World) :
    (Instr.buildSlice t len parts).run P w = .ok (.slice (some ⟨w.heap.size, 0, none⟩) len len) (w.alloc (.cells cs e)) := by
  unfold Instr.buildSlice
  simp only [Sem.run_bind, run_underlying ht, Result.andThen_ok, run_sizeOf hsz]
  rw [if_neg (by simp; omega)]
  by_cases h0 : len * s = 0
  · have e0 : denL (repCells z.cells len) = [] := by
      apply List.eq_nil_of_length_eq_zero
      rw [denL_length, repCells_length, h2, h0]
    rw [e0] at hf
    have e1 : (Array.range 0).map (fun _ : Nat => (default : Value)) = ([] : List Value).toArray := by simp
    simp only [h0, if_true, newRow]
    simp
    rw [e1, hf]
    simp
  · rw [if_neg h0]
    simp only [Sem.run_bind, zeroT_run hz, Result.andThen_ok, Sem.run_pure, den_cells]
    have := rep_eq z.cells len (by rcases Nat.eq_zero_or_pos z.cells.length with h | h; exact absurd (by rw [← h2, h, Nat.mul_zero]) h0; exact .inl h)
    rw [h2] at this
    rw [this, hf]
    simp [newRow]

theorem run_makeSl {t e : TypeId} (ht : P.underlying t = some (.slice e)) {z : AV} (hz : zeroT P e = some z) {s by_ : Nat} (hsz : szT P e = some s) (hby : bytesT P e = some by_) (kl kc : IntKind) (n : Nat) (h1 : n * by_ ≤ 140737488355328) (h2 : n ≤ 9223372036854775807) (h3 : z.cells.length = s) (w : World) :
    ∃ w', (Instr.makeSlice t (.int kl n) (.int kc n)).run P w = .ok (.slice (some ⟨w.heap.size, 0, none⟩) n n) w' ∧
      w'.ownsRow 0 e s (.slice (some ⟨w.heap.size, 0, none⟩) n n) n (denL (repCells z.cells n)) ∧ w.grownBy w' none := by
  obtain ⟨i, hi, hi1⟩ := szT_info hsz
  obtain ⟨i', hi', hi2⟩ := bytesT_info hby
  obtain ⟨i'', zv, hi'', hi3, hi4⟩ := zeroT_info hz
  rw [hi] at hi' hi''
  injection hi' with hi'; injection hi'' with hi''
  subst hi'; subst hi''
  obtain ⟨w', h5, h6, h7⟩ := run_make_full (P := P) w 0 t e _ zv s ht hi hi3 hi1 kl kc n (by rw [hi2, Nat.mul_comm]; omega) (by simp only [maxLen]; omega) (Nat.zero_le _)
  refine ⟨w', h5, ?_, h7⟩
  have e0 : (madeCells zv.cells (n * s)).toList = denL (repCells z.cells n) := by
    unfold madeCells
    rw [hi4, den_cells]
    by_cases hs : 0 < z.cells.length ∨ n = 0
    · have := rep_eq z.cells n hs
      rw [h3] at this
      rw [this]
    · have hz0 : z.cells.length = 0 := by omega
      have hs0 : s = 0 := by omega
      subst hs0
      symm
      rw [Nat.mul_zero]
      simp
      have : (repCells z.cells n).length = 0 := by rw [repCells_length, hz0, Nat.mul_zero]
      rw [List.eq_nil_of_length_eq_zero this]; rfl
  rw [e0] at h6
  exact h6

theorem opM_spec {sl : List AV} {m : List Blk} {a : Act} {w w0 : World} {S : Own} (hs : SlotsOk sl a.tmps) (hm : MemOk m w) (hf : Fr S.w w0 w) (hr : Fresh S w0 m) {o : Oper} {K : AV → List Blk → Prop}
    (h : opM P sl m o.op K) {next : Act → World → Prop} {Q : Exit → Act → World → Prop} (hn : ∀ v m' w', Left S w0 K v m' w' → next (a.put o.dst v.den) w') : o.wp P a w next Q := by
  have pure_case : opV P sl m o.op (fun v => K v m) → o.wp P a w next Q := fun h => by
    obtain ⟨v, h1, h2⟩ := opV_spec hs h
    unfold Oper.wp
    rw [h2 w hm o rfl, Oper.upon_value]
    exact hn v m w ⟨h1, hm, hf, hr⟩
  have val_case : ∀ {s : Sem Value} {v : AV} {m' : List Blk} {w' : World}, execOp a.eval o = (do pure (Next.value (← s)) : Sem Next) → s.run P w = .ok v.den w' → Left S w0 K v m' w' → o.wp P a w next Q := fun h1 h2 h3 => by
    unfold Oper.wp
    rw [h1, run_value h2, Oper.upon_value]
    exact hn _ _ _ h3
  have left_of : ∀ {r : AV} {m' : List Blk} {w' : World} {K : AV → List Blk → Prop}, K r m' → MemOk m' w' → Fr (wrs m) w w' → Fresh (own m) w m' → Left S w0 K r m' w' := fun hK hm' hf' hr' =>
    ⟨hK, hm', hf.then hf' hr.1, fun b hb => (hr'.1 b hb).elim (hr.1 b) fun h => .inr (Nat.le_trans hf.size h), fun b hb => (hr'.2 b hb).elim (hr.2 b) fun h => .inr (Nat.le_trans hf.size h)⟩
  have map_case : ∀ {s : Sem Value}, NMap P s m K → execOp a.eval o = (do pure (Next.value (← s)) : Sem Next) → o.wp P a w next Q := fun {s} h he => by
    rw [NMap_iff] at h
    obtain ⟨r, m', w', h1, h2, h3, h4, h5⟩ := h w hm
    exact val_case he h1 (left_of h2 h3 h4 h5)
  have map_skip : ∀ {s : Sem Unit}, NMap P (do s; pure undef) m (fun _ m => K (.raw undef) m) → execOp a.eval o = (do s; pure Next.skip : Sem Next) → o.wp P a w next Q := fun {s} h he => by
    rw [NMap_iff] at h
    obtain ⟨r, m', w', h1, h2, h3, h4, h5⟩ := h w hm
    unfold Oper.wp
    rw [he]
    have h6 : s.run P w = .ok () w' := by
      simp only [Sem.run_bind] at h1
      cases hs : s.run P w with
      | ok u w2 => rw [hs] at h1; simp only [Result.andThen_ok, Sem.run_pure, Result.ok.injEq] at h1; rw [h1.2]
      | _ => rw [hs] at h1; simp [Result.andThen] at h1
    have h7 : (do s; pure Next.skip : Sem Next).run P w = .ok Next.skip w' := by simp only [Sem.run_bind, h6, Result.andThen_ok, Sem.run_pure]
    rw [h7, Oper.upon_skip]
    exact hn _ _ _ (left_of h2 h3 h4 h5)
  obtain ⟨dst, op, ty, pos, after, guard⟩ := o
  cases op with
  | alloc t =>
    simp only [opM] at h
    split at h
    · rename_i z hz
      obtain ⟨v, m', h1, h2⟩ := alloc_spec hm hf hr (forceK_spec (boxK_spec h))
      refine val_case (s := Instr.alloc t true (.tuple #[])) rfl ?_ h2
      simp only [Instr.alloc, Sem.run_bind, zeroT_run hz, Result.andThen_ok, run_newVar, Sem.run_pure, h1]
    · exact h.elim
  | box t x =>
    simp only [opM] at h
    obtain ⟨u, h1, h2⟩ := evK_spec hs h
    obtain ⟨v, m', h3, h4⟩ := alloc_spec hm hf hr (boxK_spec h1)
    refine val_case (s := Instr.box t (a.eval x)) rfl ?_ h4
    simp only [Instr.box, Sem.run_bind, h2, run_newVar, Result.andThen_ok, Sem.run_pure, h3]
  | store t p x =>
    simp only [opM] at h
    obtain ⟨u, h1, h2⟩ := evK_spec hs h
    obtain ⟨v, h3, h4⟩ := evK_spec hs h1
    obtain ⟨w', m', h5, h6⟩ := storeK_spec hm hf hr h3
    unfold Oper.wp
    have : (execOp a.eval { dst := dst, op := .store t p x, type := ty, pos := pos, after := after, guard := guard }).run P w = .ok .skip w' := by
      simp only [execOp, h2, h4, Sem.run_bind, h5, Result.andThen_ok, Sem.run_pure]
    rw [this, Oper.upon_skip]
    exact hn (.raw undef) m' w' ⟨h6.k, h6.mem, h6.fr, h6.fresh⟩
  | buildSlice t len parts =>
    simp only [opM] at h
    split at h
    · rename_i e ht
      split at h
      · rename_i z s hz hsz
        rw [NH_iff] at h
        obtain ⟨⟨hl0, h1, h2⟩, h3⟩ := h
        obtain ⟨cs, h4, h5, h6⟩ := fillK_spec hs h3
        have h7 := appK_spec (lenLK_spec h4 w.heap.size)
        rw [repCells_length, h2] at h5
        have hlen : len ≤ maxLen := by simp only [maxLen]; omega
        have hrun : (Instr.buildSlice t len (parts.map fun (i, x) => (i, a.eval x))).run P w = .ok (AV.sl m.length (.slice (some ⟨w.heap.size, 0, none⟩) len len) len).den (w.alloc (.cells (denL cs).toArray e)) := by
          refine run_buildSlice ht hz hsz h1 h2 ?_ w
          rw [← h6]
          simp
        have hexec : (execOp a.eval { dst := dst, op := .buildSlice t len parts, type := ty, pos := pos, after := after, guard := guard }).run P w = .ok (.value (AV.sl m.length (.slice (some ⟨w.heap.size, 0, none⟩) len len) len).den) (w.alloc (.cells (denL cs).toArray e)) := by
          simp only [execOp]
          exact run_value hrun
        unfold Oper.wp
        rw [hexec, Oper.upon_value]
        refine hn _ _ _ ⟨h7, ?_, hf.trans (Fr.alloc S.w w _), ?_⟩
        · refine hm.push (by simp) (fun k hk b hb => Below.heap_alloc _ _ _ ((hm.holds k hk).lt hb)) ?_ (fun b hb => ?_)
          · refine ⟨?_, rfl⟩
            have := World.ownsRow_lit (base := 0) (e := e) (size := s) w (denL cs).toArray len (Nat.zero_le _) hlen (by simp [denL_length, h5])
            simpa using this
          · simp [Blk.foot, Blk.bn, Value.ownBlock] at hb; omega
        · refine hr.push rfl fun b hb => ?_
          simp [Blk.bn, Value.ownBlock] at hb
          have := hf.size
          omega
      · exact h.elim
    · exact h.elim
  | makeSlice t l c =>
    simp only [opM] at h
    obtain ⟨u, h1, h2⟩ := evK_spec hs h
    obtain ⟨v, h3, h4⟩ := evK_spec hs h1
    obtain ⟨kl, l', e1, h5⟩ := intOfK_spec h3
    obtain ⟨kc, c', e2, h6⟩ := intOfK_spec h5
    split at h6
    · rename_i e ht
      split at h6
      · rename_i z s by_ hz hsz hby
        simp only [NH_iff, NN_iff] at h6
        obtain ⟨⟨h7, rfl, h9, h10, h11⟩, h12⟩ := h6
        obtain ⟨n, rfl⟩ := Int.eq_ofNat_of_zero_le h7
        simp only [Int.toNat_natCast] at h12
        have h9' : n * by_ ≤ 140737488355328 := by
          have : ((n * by_ : Nat) : Int) ≤ 140737488355328 := by rw [Int.natCast_mul]; exact h9
          omega
        obtain ⟨w', hrun, hown, hg⟩ := run_makeSl ht hz hsz hby kl kc n h9' (by omega) h11 w
        have h13 := appK_spec (lenLK_spec h12 w.heap.size)
        refine val_case (s := Instr.makeSlice t (a.eval l) (a.eval c)) (v := .sl m.length (.slice (some ⟨w.heap.size, 0, none⟩) n n) n) (w' := w') rfl ?_ ⟨h13, ?_, ?_, ?_⟩
        · rw [h2, h4, e1, e2]; exact hrun
        · refine hm.push hg.size (fun k hk b hb => hg.block b ((hm.holds k hk).lt hb) (by simp)) ⟨hown, rfl⟩ (fun b hb => ?_)
          simp [Blk.foot, Blk.bn, Value.ownBlock] at hb; omega
        · exact hf.then (Fr.grown hg) fun i hi => by cases hi
        · refine hr.push rfl fun b hb => ?_
          simp [Blk.bn, Value.ownBlock] at hb
          have := hf.size
          omega
      · exact h6.elim
    · exact h6.elim
  | call c =>
    obtain ⟨callee, args, tys⟩ := c
    cases callee with
    | invoke r n => exact pure_case h
    | builtin b =>
      cases b <;> try exact pure_case h
      · simp only [opM] at h
        split at h
        · rename_i s x t t' hx ht
          split at h
          · rename_i htt _
            subst htt
            obtain ⟨u, h1, h2⟩ := evK_spec hs h
            obtain ⟨v, h3, h4⟩ := evK_spec hs h1
            obtain ⟨r, m', w', hrun, hleft⟩ := appendK_spec hm hf hr h3 ty
            have ha : args = #[s, x] := by rw [← Array.toArray_toList (xs := args), hx]
            have hb : tys = #[t, t] := by rw [← Array.toArray_toList (xs := tys), ht]
            unfold Oper.wp
            have : (execOp a.eval { dst := dst, op := .call { callee := .builtin .append, args := args, argTypes := tys }, type := ty, pos := pos, after := after, guard := guard }).run P w = .ok (.value r.den) w' := by
              simp only [execOp, resolve, ha, hb, Sem.run_bind, Sem.run_pure, Result.andThen_ok, invoke, builtin, List.map_toArray, List.map_cons, List.map_nil, h2, h4, hrun]
            rw [this, Oper.upon_value]
            exact hn _ _ _ hleft
          · exact h.elim
        · exact h.elim
      · simp only [opM] at h
        split at h
        · rename_i x t hx ht
          obtain ⟨u, h1, h2⟩ := evK_spec hs h
          have ha : args = #[x] := by rw [← Array.toArray_toList (xs := args), hx]
          have hb : tys = #[t] := by rw [← Array.toArray_toList (xs := tys), ht]
          refine map_case h1 ?_
          simp only [execOp, resolve, ha, hb, invoke, builtin, List.map_toArray, List.map_cons, List.map_nil, h2]
          rfl
        · exact h.elim
      iterate 2
        · simp only [opM] at h
          split at h
          · rename_i x y t t' hx ht
            obtain ⟨u, h1, h2⟩ := evK_spec hs h
            obtain ⟨v, h3, h4⟩ := evK_spec hs h1
            have ha : args = #[x, y] := by rw [← Array.toArray_toList (xs := args), hx]
            have hb : tys = #[t, t'] := by rw [← Array.toArray_toList (xs := tys), ht]
            refine map_case h3 ?_
            simp only [execOp, resolve, ha, hb, invoke, builtin, List.map_toArray, List.map_cons, List.map_nil, h2, h4]
            rfl
          · exact h.elim
    | value f =>
      simp only [opM] at h
      obtain ⟨u, h1, h2⟩ := evK_spec hs h
      cases u <;> try exact h1.elim
      rename_i g first captured
      obtain ⟨xs, h3, h4⟩ := evLK_spec hs h1
      rw [NCall_iff] at h3
      obtain ⟨h5, h6⟩ := h3
      unfold Oper.wp
      have : (execOp a.eval { dst := dst, op := .call { callee := .value f, args := args, argTypes := tys }, type := ty, pos := pos, after := after, guard := guard }).run P w = .ok (.enter g (denL (first ++ xs ++ captured)).toArray) w := by
        simp only [execOp, resolve, Sem.run_bind, h2, AV.den, Deferred.ofValue, Sem.run_pure, Result.andThen_ok, invoke, map_toArray_eval h4, h5]
        simp [denL_append]
      rw [this, Oper.upon_enter]
      refine (h6 w hm).mono fun e w' h7 => ?_
      obtain ⟨r, m', hK, rfl, hm', hf', hr'⟩ := h7
      refine hn r m' w' ⟨hK, hm', hf.then hf' hr.1, fun b hb => ?_, fun b hb => ?_⟩
      · rcases hr'.1 b hb with h | h
        · exact hr.1 b h
        · exact .inr (Nat.le_trans hf.size h)
      · rcases hr'.2 b hb with h | h
        · exact hr.2 b h
        · exact .inr (Nat.le_trans hf.size h)
  | makeMap t r =>
    cases r with
    | none => simp only [opM] at h; exact map_case (s := Instr.makeMap t none) h rfl
    | some r => exact pure_case h
  | lookup t x i ok =>
    simp only [opM] at h
    obtain ⟨u, h1, h2⟩ := evK_spec hs h
    obtain ⟨v, h3, h4⟩ := evK_spec hs h1
    rw [← h2, ← h4] at h3
    exact map_case h3 rfl
  | mapUpdate t x k y =>
    simp only [opM] at h
    obtain ⟨u, h1, h2⟩ := evK_spec hs h
    obtain ⟨v, h3, h4⟩ := evK_spec hs h1
    obtain ⟨z, h5, h6⟩ := evK_spec hs h3
    rw [← h2, ← h4, ← h6] at h5
    exact map_skip h5 rfl
  | insert t x k y =>
    simp only [opM] at h
    obtain ⟨u, h1, h2⟩ := evK_spec hs h
    obtain ⟨v, h3, h4⟩ := evK_spec hs h1
    obtain ⟨z, h5, h6⟩ := evK_spec hs h3
    rw [← h2, ← h4, ← h6] at h5
    exact map_skip h5 rfl
  | mapEntry t x k =>
    simp only [opM] at h
    obtain ⟨u, h1, h2⟩ := evK_spec hs h
    obtain ⟨v, h3, h4⟩ := evK_spec hs h1
    rw [← h2, ← h4] at h3
    exact map_case h3 rfl
  | entryStore t x k y =>
    simp only [opM] at h
    obtain ⟨u, h1, h2⟩ := evK_spec hs h
    obtain ⟨v, h3, h4⟩ := evK_spec hs h1
    obtain ⟨z, h5, h6⟩ := evK_spec hs h3
    rw [← h2, ← h4, ← h6] at h5
    exact map_skip h5 rfl
  | range t x =>
    simp only [opM] at h
    obtain ⟨u, h1, h2⟩ := evK_spec hs h
    rw [← h2] at h1
    exact map_case h1 rfl
  | next it str =>
    simp only [opM] at h
    obtain ⟨u, h1, h2⟩ := evK_spec hs h
    rw [← h2] at h1
    exact map_case h1 rfl
  | entry it =>
    simp only [opM] at h
    obtain ⟨u, h1, h2⟩ := evK_spec hs h
    rw [← h2] at h1
    exact map_case h1 rfl
  | _ => exact pure_case h

end
end Go.Sx

namespace Go.Sx
open Go.RowKit
section
variable {P : Program}

theorem dstK_spec {sl : List AV} {d : Option Tmp} {v : AV} {k : List AV → Prop} (h : dstK sl d v k) {a : Act} (hs : SlotsOk sl a.tmps) : ∃ sl', k sl' ∧ SlotsOk sl' (a.put d v.den).tmps := by
  cases d with
  | none => exact ⟨sl, h, hs⟩
  | some d =>
    have := setK_spec h
    exact ⟨_, this.2, hs.set d v⟩
theorem put_defers (a : Act) (d : Option Tmp) (v : Value) : (a.put d v).defers = a.defers := by cases d <;> rfl

theorem guardK_spec {ops : Array Oper} {sl : List AV} {j : Nat} {want : Bool} {yes no : Prop} (h : guardK ops sl j want yes no) {a : Act} (hs : SlotsOk sl a.tmps) {o : Oper} (ho : o.guard = some (j, want)) :
    (Region.wanted o (yielded ops a.tmps) = true ∧ yes) ∨ (Region.wanted o (yielded ops a.tmps) = false ∧ no) := by
  unfold guardK at h
  split at h
  · rename_i oj hj
    split at h
    · rename_i d hd
      obtain ⟨x, h1, h2⟩ := hs.get h
      have hy : yielded ops a.tmps j = match (some x.den : Option Value) with | some (.bool b) => some b | _ => none := by
        unfold yielded
        simp only [hj, Option.bind_some, hd, h2]
        rfl
      split at h1
      · rename_i b
        have hy' : yielded ops a.tmps j = some b := by rw [hy]; rfl
        cases want
        · simp only [NIf_iff] at h1
          cases b
          · exact .inl ⟨by simp [Region.wanted, ho, hy'], h1.2 rfl⟩
          · exact .inr ⟨by simp [Region.wanted, ho, hy'], h1.1 rfl⟩
        · simp only [NIf_iff] at h1
          cases b
          · exact .inr ⟨by simp [Region.wanted, ho, hy'], h1.2 rfl⟩
          · exact .inl ⟨by simp [Region.wanted, ho, hy'], h1.1 rfl⟩
      · have hy' : yielded ops a.tmps j = none := by rw [hy]; rfl
        exact .inr ⟨by simp [Region.wanted, ho, hy'], h1⟩
      · exact h1.elim
    · exact h.elim
  · exact h.elim

theorem Sim.step {w0 : World} {S : Own} {sl sl' : List AV} {m m' : List Blk} {a : Act} {w w' : World} (h : Sim w0 S sl m a w) {d : Option Tmp} {v : Value} (hs : SlotsOk sl' (a.put d v).tmps) (hm : MemOk m' w') (hf : Fr S.w w0 w') (hr : Fresh S w0 m') :
    Sim w0 S sl' m' (a.put d v) w' := ⟨hs, by rw [put_defers]; exact h.defers, hm, hf, hr⟩

theorem opsK_sound {w0 : World} {S : Own} {ops : Array Oper} {l : List Oper} {sl : List AV} {m : List Blk} {k : List AV → List Blk → Prop} (h : opsK P ops l sl m k) {a : Act} {w : World} (hsim : Sim w0 S sl m a w)
    {Q : Exit → Act → World → Prop} (hk : ∀ sl m a w, k sl m → Sim w0 S sl m a w → Q .normal a w) : wpList P ops Q l a w := by
  induction l generalizing sl m a w with
  | nil => exact hk _ _ _ _ h hsim
  | cons o rest ih =>
    simp only [opsK] at h
    have run : (opM P sl m o.op fun v m' => dstK sl o.dst v fun sl' => opsK P ops rest sl' m' k) → o.wp P a w (wpList P ops Q rest) Q := fun h =>
      opM_spec hsim.slots hsim.mem hsim.fr hsim.fresh h fun v m' w' hl => by
        obtain ⟨sl', h1, h2⟩ := dstK_spec hl.k hsim.slots
        exact ih h1 (hsim.step h2 hl.mem hl.fr hl.fresh)
    unfold wpList
    split at h
    · rename_i hg
      rw [if_pos (by simp [Region.wanted, hg])]
      exact .inl (run h)
    · rename_i j want hg
      rcases guardK_spec h hsim.slots hg with ⟨h1, h2⟩ | ⟨h1, h2⟩
      · rw [if_pos h1]
        exact .inl (run h2)
      · rw [if_neg (by simp [h1])]
        obtain ⟨sl', h3, h4⟩ := dstK_spec h2 hsim.slots
        exact ih h3 (hsim.step h4 hsim.mem hsim.fr hsim.fresh)

theorem Fits1.ok {x y : AV} {v : Value} (h : Fit1 x y) (hx : SlotOk x v) : SlotOk y v := by
  rcases h with h | ⟨h1, h2⟩
  · exact .inl h
  · rcases hx with hx | hx
    · exact (h1 hx).elim
    · exact .inr (by rw [hx, h2])
theorem FitsSl.length {s t : List AV} (h : FitsSl s t) : s.length = t.length := by
  induction s generalizing t with
  | nil => cases t <;> first | rfl | exact h.elim
  | cons x s ih =>
    cases t with
    | nil => exact h.elim
    | cons y t => simp [ih h.2]
theorem FitsSl.get {s t : List AV} (h : FitsSl s t) {i : Nat} {y : AV} (hy : t[i]? = some y) : ∃ x, s[i]? = some x ∧ Fit1 x y := by
  induction s generalizing t i with
  | nil => cases t <;> first | (simp at hy; done) | exact h.elim
  | cons x s ih =>
    cases t with
    | nil => exact h.elim
    | cons z t =>
      cases i with
      | zero => simp at hy; subst hy; exact ⟨x, rfl, h.1⟩
      | succ i => simpa using ih h.2 (by simpa using hy)
theorem SlotsOk.fits {s t : List AV} (h : FitsSl s t) {tmps : Array Value} (hs : SlotsOk s tmps) : SlotsOk t tmps := by
  refine ⟨h.length ▸ hs.1, fun i y v hy hv => ?_⟩
  obtain ⟨x, h1, h2⟩ := h.get hy
  exact Fits1.ok h2 (hs.2 i x v h1 hv)
theorem Sim.fits {w0 : World} {S : Own} {s t : List AV} {m m' : List Blk} {a : Act} {w : World} (h : Sim w0 S s m a w) (hs : FitsSl s t) (hm : MemFits m m') : Sim w0 S t m' a w :=
  ⟨h.slots.fits hs, h.defers, (hm w h.mem).1, h.fr, fun b hb => h.fresh.1 b ((hm w h.mem).2.1 b hb), fun b hb => h.fresh.2 b ((hm w h.mem).2.2 b hb)⟩

theorem codeK_sound {w0 : World} {S : Own} {c : Code} : ∀ {sl : List AV} {m : List Blk} {Q : Post}, codeK P c sl m Q → ∀ {a : Act} {w : World}, Sim w0 S sl m a w →
    c.wp P (fun e a w => ∃ sl m, Q e sl m ∧ Sim w0 S sl m a w) a w := by
  induction c with
  | skip => intro sl m Q h a w hs; exact wp_skip ⟨_, _, h, hs⟩
  | region id ops draw =>
    intro sl m Q h a w hs
    cases draw with
    | false =>
      exact wp_region_list (opsK_sound h hs fun sl m a w h1 h2 => ⟨sl, m, h1, h2⟩)
    | true =>
      simp only [codeK] at h
      unfold NDraw at h
      refine wp_mono (h id w0 S a w hs) fun e a w hq => ?_
      obtain ⟨rfl, sl', m', h1, h2⟩ := hq
      exact ⟨sl', m', h1, h2⟩
  | seq x y ihx ihy =>
    intro sl m Q h a w hs
    refine wp_seq (wp_mono (ihx h hs) fun e a w hq => ?_)
    obtain ⟨sl', m', h1, h2⟩ := hq
    cases e with
    | normal => exact ihy h1 h2
    | _ => exact ⟨sl', m', h1, h2⟩
  | cond c x y ihx ihy =>
    intro sl m Q h a w hs
    obtain ⟨v, h1, h2⟩ := evK_spec hs.slots h
    cases v <;> try exact h1.elim
    rename_i t
    simp only [NIf_iff] at h1
    refine wp_cond_split (t := t) (by rw [h2]; rfl) (fun ht => ihx (h1.1 ht) hs) (fun ht => ihy (h1.2 ht) hs)
  | block id c ih =>
    intro sl m Q h a w hs
    refine wp_block (wp_mono (ih h hs) fun e a w hq => ?_)
    obtain ⟨sl', m', h1, h2⟩ := hq
    cases e with
    | exit j =>
      simp only [Exit.inBlock]
      split at h1
      · rename_i hj; injection hj with hj; subst hj
        split at h1
        · rename_i heq _; rw [if_pos heq]; exact ⟨sl', m', h1, h2⟩
        · rename_i heq _; rw [if_neg heq]; exact ⟨sl', m', h1, h2⟩
      · rename_i hne; exact (hne _ rfl).elim
    | _ => exact ⟨sl', m', h1, h2⟩
  | loop c ih =>
    intro sl m Q h a w hs
    simp only [codeK] at h
    unfold NLoop at h
    rcases h with ⟨α, ok, s, mm, μ, hin, hround⟩ | ⟨n, hn⟩
    rotate_left
    · refine wp_loop_rounds n ?_
      induction n generalizing sl m a w with
      | zero => exact hn.elim
      | succ n ihn =>
        rw [rounds_succ]
        refine wp_mono (ih hn hs) fun e a w hq => ?_
        obtain ⟨sl', m', h3, h4⟩ := hq
        cases e with
        | normal => exact ihn h4 h3
        | _ => exact ⟨sl', m', h3, h4⟩
    obtain ⟨x0, h0, h1, h2⟩ := hin ⟨w, hs.mem⟩
    refine wp_loop_ghost (fun n a w => ∃ x, ok x ∧ μ x = n ∧ Sim w0 S (s x) (mm x) a w) (μ x0) ⟨x0, h0, rfl, hs.fits h1 h2⟩ ?_
    rintro n a w ⟨x, hx, rfl, hsx⟩
    refine wp_mono (ih (hround x hx) hsx) fun e a w hq => ?_
    obtain ⟨sl', m', h3, h4⟩ := hq
    cases e with
    | normal =>
      obtain ⟨x', h5, h6, h7, h8⟩ := h3.get ⟨w, h4.mem⟩
      exact ⟨μ x', h6, x', h5, rfl, h4.fits h7 h8⟩
    | _ => exact ⟨sl', m', h3, h4⟩
  | rangeFunc => intro sl m Q h; exact h.elim
  | exit id => intro sl m Q h a w hs; exact wp_exit ⟨_, _, h, hs⟩
  | scope c ih =>
    intro sl m Q h a w hs
    refine wp_scope_straight (wp_mono (ih h hs) fun e a w hq => ?_)
    obtain ⟨sl', m', h1, h2⟩ := hq
    cases e with
    | goto l => exact h1.elim
    | _ => exact ⟨sl', m', h1, h2⟩
  | label l => intro sl m Q h a w hs; exact wp_label ⟨_, _, h, hs⟩
  | goto l => intro sl m Q h; exact h.elim
  | ret => intro sl m Q h a w hs; exact wp_ret ⟨_, _, h, hs⟩
  | refuse why => intro sl m Q h; exact h.elim

end
end Go.Sx

namespace Go.Sx
section
variable {P : Program}
/-- Operations whose value hangs on no memory. -/
def pureOp (P : Program) : Op → Bool
  | .move _ | .assign _ | .pick .. | .binOp .. | .unOp .. | .fieldAddr .. | .field .. | .index .. | .extract .. | .nilCheck _ | .build .. | .makeFunc .. => true
  | .convert s t _ => match P.underlying s, P.underlying t with
    | some (.int _), some (.int _) => true
    | _, _ => false
  | .slice t _ _ _ _ => match P.underlying t with
    | some .string => true
    | _ => false
  | .call c => match c.callee with
    | .builtin .len | .builtin .max | .builtin .min => true
    | _ => false
  | _ => false
def readyO (o : Oper) (done : List Nat) : Bool := o.after.toList.all fun e => !Region.binds .any e || done.contains e.on
/-- The next operation that may go first whatever the others do. -/
def nextP (P : Program) (done : List Nat) : Nat → List Oper → Option (Nat × Oper)
  | _, [] => none
  | i, o :: os => match done.contains i, pureOp P o.op, readyO o done with
    | false, true, true => some (i, o)
    | _, _, _ => nextP P done (i + 1) os
def readys (done : List Nat) : Nat → List Oper → List (Nat × Oper)
  | _, [] => []
  | i, o :: os => match done.contains i, readyO o done with
    | false, true => (i, o) :: readys done (i + 1) os
    | _, _ => readys done (i + 1) os
def listedOf (n : Nat) : List Nat → Array Bool
  | [] => Array.replicate n false
  | i :: done => (listedOf n done).setIfInBounds i true
def chkP (l : List Oper) (done : List Nat) (i : Nat) : Bool :=
  Region.noSelect l.toArray && Region.free .any l.toArray (listedOf l.length done) i && (Region.ready .any l.toArray (listedOf l.length done)).contains i
def chkR (l : List Oper) (done : List Nat) (rs : List (Nat × Oper)) : Bool :=
  Region.ready .any l.toArray (listedOf l.length done) == rs.map (·.1)
def OrdQ (w0 : World) (S : Own) (k : List AV → List Blk → Prop) : Exit → Act → World → Prop := fun e a w => e = .normal ∧ ∃ sl m, k sl m ∧ Sim w0 S sl m a w
/-- What is left of a statement that draws its order, in any order. -/
@[irreducible] def NOrd (P : Program) (l : List Oper) (n : Nat) (done : List Nat) (sl : List AV) (m : List Blk) (k : List AV → List Blk → Prop) : Prop :=
  ∀ (w0 : World) (S : Own) (a : Act) (w : World), Sim w0 S sl m a w → wpAny P .any l.toArray (OrdQ w0 S k) n (listedOf l.length done) a w
/-- Each of these may go next. -/
@[irreducible] def NEach (P : Program) (l : List Oper) (n : Nat) (done : List Nat) (sl : List AV) (m : List Blk) (k : List AV → List Blk → Prop) (rs : List (Nat × Oper)) : Prop :=
  ∀ x ∈ rs, ∀ (w0 : World) (S : Own) (a : Act) (w : World), Sim w0 S sl m a w → l.toArray[x.1]? = some x.2 → wpOp P l.toArray (OrdQ w0 S k) x.1 (wpAny P .any l.toArray (OrdQ w0 S k) n (listedOf l.length (x.1 :: done))) a w

theorem ndraw_ord {l : List Oper} {sl : List AV} {m : List Blk} {k : List AV → List Blk → Prop} (h1 : P.follows .mixedOrders = true) (n : Nat) (hn : l.length = n) (h : NOrd P l n [] sl m k) : NDraw P l.toArray sl m k := by
  subst hn
  unfold NDraw
  intro id w0 S a w hs
  unfold NOrd at h
  refine wp_region_any h1 ?_
  have := h w0 S a { w with drawn := w.drawn + 1 } ⟨hs.slots, hs.defers, hs.mem.keep (Nat.le_refl _) (fun _ _ _ _ => rfl), ⟨hs.fr.os, hs.fr.tape, hs.fr.output, hs.fr.size, hs.fr.block⟩, hs.fresh⟩
  show wpAny P .any l.toArray (OrdQ w0 S k) _ _ a _
  simpa [listedOf] using this
theorem nextP_at {done : List Nat} : ∀ (os : List Oper) (i j : Nat) (o : Oper), nextP P done i os = some (j, o) → ∃ t, j = i + t ∧ os[t]? = some o
  | [], _, _, _, h => by simp [nextP] at h
  | x :: os, i, j, o, h => by
    unfold nextP at h
    split at h
    · simp only [Option.some.injEq, Prod.mk.injEq] at h
      obtain ⟨rfl, rfl⟩ := h
      exact ⟨0, rfl, rfl⟩
    · obtain ⟨t, h1, h2⟩ := nextP_at os (i + 1) j o h
      exact ⟨t + 1, by omega, by simpa using h2⟩
theorem readys_at {done : List Nat} : ∀ (os : List Oper) (i : Nat) (x : Nat × Oper), x ∈ readys done i os → ∃ t, x.1 = i + t ∧ os[t]? = some x.2
  | [], _, _, h => by simp [readys] at h
  | y :: os, i, x, h => by
    unfold readys at h
    split at h
    · rcases List.mem_cons.1 h with rfl | h
      · exact ⟨0, rfl, rfl⟩
      · obtain ⟨t, h1, h2⟩ := readys_at os (i + 1) x h
        exact ⟨t + 1, by omega, by simpa using h2⟩
    · obtain ⟨t, h1, h2⟩ := readys_at os (i + 1) x h
      exact ⟨t + 1, by omega, by simpa using h2⟩
section
variable {l : List Oper} {n i : Nat} {done : List Nat} {sl : List AV} {m : List Blk} {k : List AV → List Blk → Prop}
theorem ord_first {o : Oper} {v : AV} {sl' : List AV} (hn : nextP P done 0 l = some (i, o)) (hc : chkP l done i = true)
    (h : NOrd P l n (i :: done) sl' m k) {w0 : World} {S : Own} {a : Act} {w : World} (hs : Sim w0 S sl m a w) (hy : Yields P l.toArray o v.den a) (hs' : SlotsOk sl' (a.put o.dst v.den).tmps) :
    wpAny P .any l.toArray (OrdQ w0 S k) (n + 1) (listedOf l.length done) a w := by
  obtain ⟨t, ht, ho⟩ := nextP_at l 0 i o hn
  obtain rfl : i = t := by omega
  simp only [chkP, Bool.and_eq_true] at hc
  obtain ⟨⟨h1, h2⟩, h3⟩ := hc
  have ho' : l.toArray[i]? = some o := by simpa using ho
  unfold NOrd at h
  exact wpAny_first ho' (Region.noSelect_spec h1) (fun c a w hq => by cases hq.1) n _ a w (Region.free_spec ho' h2) (by simpa using h3) hy
    (h w0 S _ w (hs.step hs' hs.mem hs.fr hs.fresh))
theorem z36 {d : Option Tmp} {op : Op} {t : TypeId} {p : String} {e : Array Edge} (hn : nextP P done 0 l = some (i, ⟨d, op, t, p, e, none⟩)) (hc : chkP l done i = true)
    (h : ∀ K : List AV → Prop, (∀ sl, NOrd P l n (i :: done) sl m k → K sl) → opV P sl [] op fun v => dstK sl d v K) : NOrd P l (n + 1) done sl m k := by
  unfold NOrd
  intro w0 S a w hs
  obtain ⟨v, h1, h2⟩ := opV_spec hs.slots (h _ fun _ h => h)
  obtain ⟨sl', h3, h4⟩ := dstK_spec h1 hs.slots
  exact ord_first hn hc h3 hs (.inl ⟨rfl, fun w => h2 w ⟨by simp, List.Pairwise.nil⟩ _ rfl⟩) h4
theorem z39 {rs : List (Nat × Oper)} (_hn : nextP P done 0 l = none) (hr : readys done 0 l = rs) (hc : chkR l done rs = true) (hne : rs ≠ []) (h : NEach P l n done sl m k rs) : NOrd P l (n + 1) done sl m k := by
  unfold NOrd
  intro w0 S a w hs
  have hc : Region.ready .any l.toArray (listedOf l.length done) = rs.map (·.1) := by simpa [chkR] using hc
  unfold wpAny
  rw [hc]
  refine ⟨fun e => (hne (by simpa using e)).elim, fun i hi => ?_⟩
  obtain ⟨x, hx, rfl⟩ := List.mem_map.1 hi
  obtain ⟨t, h1, h2⟩ := readys_at l 0 x (hr ▸ hx)
  unfold NEach at h
  exact h x hx w0 S a w hs (by rw [h1]; simpa using h2)
theorem z38 (_hr : readys done 0 l = []) (hc : chkR l done [] = true) (h : k sl m) : NOrd P l n done sl m k := by
  unfold NOrd
  intro w0 S a w hs
  have hc : Region.ready .any l.toArray (listedOf l.length done) = [] := by simpa [chkR] using hc
  cases n with
  | zero => exact ⟨hc, rfl, sl, m, h, hs⟩
  | succ n => exact ⟨fun _ => ⟨rfl, sl, m, h, hs⟩, by rw [hc]; simp⟩
theorem z42 : NEach P l n done sl m k [] := by unfold NEach; intro x hx; cases hx
theorem z40 {rs : List (Nat × Oper)} {d : Option Tmp} {op : Op} {t : TypeId} {p : String} {e : Array Edge}
    (h : ∀ K : List AV → List Blk → Prop, (∀ sl m, NOrd P l n (i :: done) sl m k → K sl m) → opM P sl m op fun v m' => dstK sl d v fun sl' => K sl' m') (hr : NEach P l n done sl m k rs) : NEach P l n done sl m k ((i, ⟨d, op, t, p, e, none⟩) :: rs) := by
  unfold NEach at *
  intro x hx
  rcases List.mem_cons.1 hx with rfl | hx
  · intro w0 S a w hs ho
    unfold wpOp
    simp only [ho]
    rw [if_pos (show Region.wanted ⟨d, op, t, p, e, none⟩ (yielded l.toArray a.tmps) = true from rfl)]
    refine .inl (opM_spec hs.slots hs.mem hs.fr hs.fresh (o := ⟨d, op, t, p, e, none⟩) (h _ fun _ _ h => h) fun v m' w' hl => ?_)
    obtain ⟨sl', h1, h2⟩ := dstK_spec hl.k hs.slots
    unfold NOrd at h1
    exact h1 w0 S _ _ (hs.step h2 hl.mem hl.fr hl.fresh)
  · exact hr x hx
end
end
end Go.Sx

namespace Go.Sx
open Go.RowKit
section
variable {P : Program}

theorem argK_spec {args : List AV} {n : Nat} {k : List AV → Prop} (h : argK args n k) : args.length ≤ n ∧ k (args ++ List.replicate (n - args.length) .any) := by
  induction n generalizing args k with
  | zero =>
    cases args with
    | nil => exact ⟨Nat.le_refl _, h⟩
    | cons x xs => exact h.elim
  | succ n ih =>
    cases args with
    | nil => have := ih h; exact ⟨Nat.zero_le _, by simpa [List.replicate_succ] using this.2⟩
    | cons x xs => have := ih h; exact ⟨by simpa using this.1, by simpa using this.2⟩
theorem args_ok {args : List AV} {n : Nat} (_hn : args.length ≤ n) : SlotsOk (args ++ List.replicate (n - args.length) .any) ((denL args).toArray ++ Array.replicate (n - (denL args).toArray.size) undef) := by
  refine ⟨by simp [denL_length], fun i x v hx hv => ?_⟩
  rw [List.getElem?_append] at hx
  split at hx
  · rename_i hlt
    rw [Array.getElem?_append_left (by simpa [denL_length] using hlt)] at hv
    simp only [List.getElem?_toArray, denL_getElem?, hx, Option.map_some] at hv
    injection hv with hv
    exact .inr hv.symm
  · rw [List.getElem?_replicate] at hx
    split at hx
    · injection hx with hx; exact .inl hx.symm
    · cases hx
theorem retK_spec {xs : List AV} {k : AV → Prop} (h : retK xs k) : k (retAV xs) := by
  cases xs with
  | nil => exact h
  | cons x xs => cases xs <;> exact h

theorem loadK_asAddr {m : List Blk} {t : TypeId} {x : AV} {K : AV → Prop} (h : loadK P m t x K) : ∃ v : AV, K v ∧ ∀ w, MemOk m w → (do loadVar t (← asAddr x.den) : Sem Value).run P w = .ok v.den w := by
  cases x with
  | ptr j a off =>
    simp only [loadK] at h
    obtain ⟨b, hb, hq⟩ := blkK_spec h
    rw [NH_iff] at hq
    obtain ⟨rfl, hz⟩ := hq
    obtain ⟨v, hK, hp⟩ := partK_spec hz
    refine ⟨v, hK, fun w hm => ?_⟩
    simp only [AV.den, asAddr, Sem.run_bind, Sem.run_pure, Result.andThen_ok]
    exact hp.load hm hb
  | hp a off =>
    obtain ⟨v, F, hK, hp, hF⟩ := loadH_spec h
    refine ⟨v, hK, fun w hm => ?_⟩
    simp only [AV.den, asAddr, Sem.run_bind, Sem.run_pure, Result.andThen_ok]
    exact hp.run (hF w hm)
  | _ => exact h.elim

theorem resK_spec {m : List Blk} {sl : List AV} {tmps : Array Value} (hs : SlotsOk sl tmps) {rs : List ResultVar} {k : List AV → Prop} (h : resK P m sl rs k) :
    ∃ xs, k xs ∧ ∀ w, MemOk m w → (rs.mapM (fun | .tmp t => pure (tmps.getD t undef) | .cell a t => do loadVar t (← asAddr (tmps.getD a undef)) : ResultVar → Sem Value)).run P w = .ok (denL xs) w := by
  induction rs generalizing k with
  | nil => exact ⟨[], h, fun w _ => by simp [denL]⟩
  | cons r rs ih =>
    cases r with
    | tmp t =>
      obtain ⟨x, h1, h2⟩ := hs.get h
      obtain ⟨xs, h3, h4⟩ := ih h1
      refine ⟨x :: xs, h3, fun w hm => ?_⟩
      simp only [List.mapM_cons, Sem.run_bind, Sem.run_pure, Result.andThen_ok, h4 w hm, denL]
      simp [h2]
    | cell a t =>
      obtain ⟨x, h1, h2⟩ := hs.get h
      obtain ⟨v, h5, h6⟩ := loadK_asAddr h1
      obtain ⟨xs, h3, h4⟩ := ih h5
      refine ⟨v :: xs, h3, fun w hm => ?_⟩
      have h6 := h6 w hm
      have e : tmps.getD a undef = x.den := by simp [h2]
      simp only [List.mapM_cons, Sem.run_bind, e]
      simp only [Sem.run_bind] at h6
      rw [h6]
      simp only [Result.andThen_ok, h4 w hm, Sem.run_pure, denL]

theorem results_spec {fn : Func} {m : List Blk} {sl : List AV} {tmps : Array Value} (hs : SlotsOk sl tmps) {k : List AV → Prop} (h : resK P m sl fn.results.toList k) :
    ∃ xs, k xs ∧ ∀ w, MemOk m w → (results fn tmps).run P w = .ok (retAV xs).den w := by
  obtain ⟨xs, h1, h2⟩ := resK_spec hs h
  refine ⟨xs, h1, fun w hm => ?_⟩
  unfold results
  rw [Array.mapM_eq_mapM_toList]
  simp only [map_eq_pure_bind, Sem.run_bind]
  have h3 := h2 w hm
  refine (congrArg (fun r => (Result.andThen r _).andThen _) h3).trans ?_
  simp only [Result.andThen_ok, Sem.run_pure]
  congr 1
  cases xs with
  | nil => simp [retAV, AV.den, denL]
  | cons x xs =>
    cases xs with
    | nil => simp [retAV, denL]
    | cons y ys => simp [retAV, AV.den, denL]

theorem enters_of {f : FuncId} {fn : Func} (hf : P.funcs[f]? = some fn) (hb : fn.body.isSome = true) (hn : (fn.name == "runtime.NumGoroutine") = false) (as : Array Value) (w : World) : (callFunc f as).run P w = .ok (.enter f as) w := by
  unfold callFunc
  have hb' : fn.body ≠ none := by intro h; rw [h] at hb; cases hb
  have hn' : fn.name ≠ "runtime.NumGoroutine" := by simpa using hn
  simp [hf, hn', hb']

/-- A function's body, walked, is a contract. -/
theorem ncall_of {f : FuncId} {fn : Func} (hf : P.funcs[f]? = some fn) (hb : fn.body.isSome = true) (hn : (fn.name == "runtime.NumGoroutine") = false) {args : List AV} {m : List Blk} {K : AV → List Blk → Prop}
    (h : funcK P fn args m K) : NCall P f args m K := by
  rw [NCall_iff]
  refine ⟨enters_of hf hb hn, fun w hm => ?_⟩
  unfold funcK at h
  split at h
  · rename_i c hc
    obtain ⟨hlen, h⟩ := argK_spec h
    have hsim : Sim w (own m) (args ++ List.replicate (fn.ntmps - args.length) .any) m { tmps := (denL args).toArray ++ Array.replicate (fn.ntmps - (denL args).toArray.size) undef, defers := [] } w :=
      ⟨args_ok hlen, rfl, hm, Fr.refl _ w, fun b hb => .inl hb, fun b hb => .inl hb⟩
    refine calls_of_wp hf hc (wp_mono (codeK_sound h hsim) fun e a w' hq => ?_)
    obtain ⟨sl', m', h1, h2⟩ := hq
    cases e with
    | normal =>
      obtain ⟨xs, h3, h4⟩ := results_spec h2.slots h1
      exact ⟨h2.defers, _, h4 w' h2.mem, _, _, retK_spec h3, rfl, h2.mem, h2.fr, h2.fresh⟩
    | ret =>
      obtain ⟨xs, h3, h4⟩ := results_spec h2.slots h1
      exact ⟨h2.defers, _, h4 w' h2.mem, _, _, retK_spec h3, rfl, h2.mem, h2.fr, h2.fresh⟩
    | exit id => exact h1.elim
    | goto l => exact h1.elim
    | panic ch => exact h1.elim
    | outgrown => exact h1.elim
  · exact h.elim

theorem NCall.mono {f : FuncId} {args : List AV} {m : List Blk} {K K' : AV → List Blk → Prop} (h : NCall P f args m K) (hk : ∀ r m, K r m → K' r m) : NCall P f args m K' := by
  rw [NCall_iff] at h ⊢
  refine ⟨h.1, fun w hm => (h.2 w hm).mono fun e w' hq => ?_⟩
  obtain ⟨r, m', h1, h2⟩ := hq
  exact ⟨r, m', hk r m' h1, h2⟩

/-- A contract over a few blocks serves over all that hold them. -/
theorem NCall.frame {f : FuncId} {args args' : List AV} {m mL : List Blk} {K KL : AV → List Blk → Prop} (h : NCall P f args' mL KL) (hargs : denL args' = denL args)
    (hin : ∀ w, MemOk m w → MemOk mL w ∧ ∀ b, wrs mL b → wrs m b)
    (hK : ∀ r mL', KL r mL' → ∃ r' m', r'.den = r.den ∧ K r' m' ∧ ∀ w w', MemOk m w → MemOk mL' w' → Fr (wrs mL) w w' → Fresh (own mL) w mL' → MemOk m' w' ∧ Fresh (own m) w m') : NCall P f args m K := by
  rw [NCall_iff] at h ⊢
  refine ⟨h.1, fun w hm => ?_⟩
  have h2 := (h.2 w (hin w hm).1).mono (R' := fun e w' => ∃ r m', K r m' ∧ e = .returned r.den ∧ MemOk m' w' ∧ Fr (wrs m) w w' ∧ Fresh (own m) w m') fun e w' hq => by
    obtain ⟨r, mL', h1, rfl, h3, h4, h5⟩ := hq
    obtain ⟨r', m', h6, h7, h8⟩ := hK r mL' h1
    obtain ⟨h9, h10⟩ := h8 w w' hm h3 h4 h5
    exact ⟨r', m', h7, by rw [h6], h9, ⟨h4.os, h4.tape, h4.output, h4.size, fun k hk hs => h4.block k hk (fun ht => hs ((hin w hm).2 k ht))⟩, h10⟩
  rw [hargs] at h2
  exact h2

theorem wrs_nil {b : Nat} (h : wrs [] b) : False := by obtain ⟨k, hk, _⟩ := h; simp at hk
theorem MemOk.nil (w : World) : MemOk [] w := ⟨by simp, List.Pairwise.nil⟩
theorem MemOk.fr_none {m : List Blk} {w w' : World} (h : MemOk m w) (hf : Fr (wrs []) w w') : MemOk m w' :=
  h.keep hf.size fun k hk b hb => hf.block b ((h.holds k hk).lt hb) (fun h => wrs_nil h)
theorem Fresh.self (m : List Blk) (w : World) : Fresh (own m) w m := ⟨fun _ hb => .inl hb, fun _ hb => .inl hb⟩

/-- A call that hands back a plain value and leaves all as it was. -/
theorem NCall.pure {f : FuncId} {args : List AV} {m : List Blk} {K : AV → List Blk → Prop} {KL : AV → List Blk → Prop} (h : NCall P f args [] KL) (hK : ∀ r mL, KL r mL → ∃ r', r'.den = r.den ∧ K r' m) : NCall P f args m K := by
  refine h.frame rfl (fun w _ => ⟨MemOk.nil w, fun _ hb => (wrs_nil hb).elim⟩) fun r mL' hr => ?_
  obtain ⟨r', h1, h2⟩ := hK r mL' hr
  exact ⟨r', m, h1, h2, fun w w' hm _ hf _ => ⟨hm.fr_none hf, Fresh.self m w⟩⟩

end
end Go.Sx

namespace Go.Sx
/-- Blocks put back at their places, new ones behind. -/
def rep : List Blk → List Nat → List Blk → List Blk
  | m, [], bs => m ++ bs
  | m, i :: is, b :: bs => rep (m.set i b) is bs
  | m, _ :: _, [] => m
theorem Sep.symm {x y : Blk} (h : Sep x y) : Sep y x := fun hw b h1 h2 => h hw.symm b h2 h1
theorem sep_at {m : List Blk} (h : m.Pairwise Sep) {i j : Nat} {x y : Blk} (hij : i ≠ j) (hx : m[i]? = some x) (hy : m[j]? = some y) : Sep x y := by
  obtain ⟨hi, rfl⟩ := List.getElem?_eq_some_iff.1 hx
  obtain ⟨hj, rfl⟩ := List.getElem?_eq_some_iff.1 hy
  rcases Nat.lt_or_gt_of_ne hij with h1 | h1
  · exact List.pairwise_iff_getElem.1 h i j hi hj h1
  · exact (List.pairwise_iff_getElem.1 h j i hj hi h1).symm
theorem sep_of {m : List Blk} (h : ∀ (i j : Nat) (x y : Blk), i < j → m[i]? = some x → m[j]? = some y → Sep x y) : m.Pairwise Sep :=
  List.pairwise_iff_getElem.2 fun i j hi hj hij => h i j _ _ hij (List.getElem?_eq_getElem hi) (List.getElem?_eq_getElem hj)
/-- Where a block put back lies. -/
def srcAt (n : Nat) (idx : List Nat) (t : Nat) : Nat := (idx[t]?).getD (n + (t - idx.length))
theorem rep_at : ∀ (idx : List Nat) (m bs : List Blk) (j : Nat) (x : Blk), idx.Nodup → (∀ i ∈ idx, i < m.length) → idx.length ≤ bs.length → (rep m idx bs)[j]? = some x →
    (∃ t, bs[t]? = some x ∧ srcAt m.length idx t = j) ∨ (j ∉ idx ∧ m[j]? = some x)
  | [], m, bs, j, x, _, _, _, h => by
    unfold rep at h
    rcases Nat.lt_or_ge j m.length with hj | hj
    · rw [List.getElem?_append_left hj] at h
      exact .inr ⟨by simp, h⟩
    · rw [List.getElem?_append_right hj] at h
      exact .inl ⟨j - m.length, h, by simp [srcAt]; omega⟩
  | i :: is, m, [], j, x, _, _, hl, _ => by simp at hl
  | i :: is, m, b :: bs, j, x, hn, hi, hl, h => by
    unfold rep at h
    rw [List.nodup_cons] at hn
    rcases rep_at is (m.set i b) bs j x hn.2 (fun k hk => by rw [List.length_set]; exact hi k (List.mem_cons_of_mem _ hk)) (by simpa using hl) h with ⟨t, h1, h2⟩ | ⟨h1, h2⟩
    · refine .inl ⟨t + 1, by simpa using h1, ?_⟩
      rw [List.length_set] at h2
      rw [← h2]
      unfold srcAt
      simp
    · by_cases hij : j = i
      · subst hij
        rw [List.getElem?_set_self (hi j (List.mem_cons_self ..))] at h2
        exact .inl ⟨0, by simpa using h2, by simp [srcAt]⟩
      · rw [List.getElem?_set_ne (Ne.symm hij)] at h2
        exact .inr ⟨by simp [hij, h1], h2⟩
/-- A contract over some of the blocks serves over all of them. -/
theorem NCall.sub {P : Program} {f : FuncId} {args : List AV} {m : List Blk} {K KL : AV → List Blk → Prop} (idx : List Nat) (args' : List AV) (mL : List Blk) (h : NCall P f args' mL KL) (hargs : denL args' = denL args)
    (hn : idx.Nodup) (hmL : idx.map (fun i => m[i]?) = mL.map some)
    (hK : ∀ r bs, KL r bs → idx.length ≤ bs.length ∧ ∃ r', r'.den = r.den ∧ K r' (rep m idx bs)) : NCall P f args m K := by
  have hlen : idx.length = mL.length := by simpa using congrArg List.length hmL
  have hat : ∀ t : Nat, ∀ k, mL[t]? = some k → ∃ i, idx[t]? = some i ∧ m[i]? = some k := fun t k hk => by
    have e := congrArg (fun l => l[t]?) hmL
    simp only [List.getElem?_map, hk, Option.map_some] at e
    rcases hi : idx[t]? with _ | i
    · rw [hi] at e; simp at e
    · rw [hi] at e
      simp only [Option.map_some, Option.some.injEq] at e
      exact ⟨i, rfl, e⟩
  have hlt : ∀ i ∈ idx, i < m.length := fun i hi => by
    obtain ⟨t, ht, rfl⟩ := List.getElem_of_mem hi
    obtain ⟨i', h1, h2⟩ := hat t mL[t] (List.getElem?_eq_getElem (by omega))
    rw [List.getElem?_eq_getElem ht] at h1
    cases h1
    exact (List.getElem?_eq_some_iff.1 h2).1
  have hmem : ∀ k ∈ mL, ∃ i ∈ idx, m[i]? = some k := fun k hk => by
    obtain ⟨t, ht, rfl⟩ := List.getElem_of_mem hk
    obtain ⟨i, h1, h2⟩ := hat t _ (List.getElem?_eq_getElem ht)
    exact ⟨i, List.mem_of_getElem? h1, h2⟩
  have hwrs : ∀ b, wrs mL b → wrs m b := fun b ⟨k, hk, h1, h2⟩ => by
    obtain ⟨i, _, h3⟩ := hmem k hk
    exact ⟨k, List.mem_of_getElem? h3, h1, h2⟩
  refine h.frame hargs (fun w hm => ⟨⟨fun k hk => ?_, sep_of fun i j x y hij hx hy => ?_⟩, hwrs⟩) fun r bs hr => ?_
  · obtain ⟨i, _, h3⟩ := hmem k hk
    exact hm.holds k (List.mem_of_getElem? h3)
  · obtain ⟨i', h1, h2⟩ := hat i x hx
    obtain ⟨j', h3, h4⟩ := hat j y hy
    refine sep_at hm.sep (fun e => ?_) h2 h4
    subst e
    obtain ⟨hi, e1⟩ := List.getElem?_eq_some_iff.1 h1
    obtain ⟨hj, e2⟩ := List.getElem?_eq_some_iff.1 h3
    exact List.pairwise_iff_getElem.1 hn i j hi hj hij (e1.trans e2.symm)
  obtain ⟨hl, r', h1, h2⟩ := hK r bs hr
  refine ⟨r', _, h1, h2, fun w w' hm hm' hf hfr => ?_⟩
  have hylt : ∀ y ∈ m, ∀ b, y.foot b → b < w.heap.size := fun y hy b hb => (hm.holds y hy).lt hb
  have hold : ∀ j y, j ∉ idx → m[j]? = some y → ∀ b, y.foot b → ¬ wrs mL b := fun j y hj hy b hb ⟨k, hk, hkw, hkb⟩ => by
    obtain ⟨i, hi, h3⟩ := hmem k hk
    exact sep_at hm.sep (i := i) (j := j) (fun e => hj (e ▸ hi)) h3 hy (.inl hkw) b hkb hb
  have hfoot : ∀ j y, j ∉ idx → m[j]? = some y → y.wr = true → ∀ b, y.foot b → ¬ foots mL b := fun j y hj hy hyw b hb ⟨k, hk, hkb⟩ => by
    obtain ⟨i, hi, h3⟩ := hmem k hk
    exact sep_at hm.sep (i := i) (j := j) (fun e => hj (e ▸ hi)) h3 hy (.inr hyw) b hkb hb
  have hbo : ∀ t x j y, bs[t]? = some x → j ∉ idx → m[j]? = some y → Sep x y := fun t x j y hx hj hy => fun hww b hb1 hb2 => by
    have hnew : b < w.heap.size := hylt y (List.mem_of_getElem? hy) b hb2
    rcases hww with hw | hw
    · rcases hfr.1 b ⟨x, List.mem_of_getElem? hx, hw, hb1⟩ with h3 | h3
      · exact hold j y hj hy b hb2 h3
      · omega
    · rcases hfr.2 b ⟨x, List.mem_of_getElem? hx, hb1⟩ with h3 | h3
      · exact hfoot j y hj hy hw b hb2 h3
      · omega
  have hfoots : ∀ b, foots mL b → foots m b := fun b ⟨k, hk, hkb⟩ => by
    obtain ⟨i, _, h3⟩ := hmem k hk
    exact ⟨k, List.mem_of_getElem? h3, hkb⟩
  refine ⟨⟨fun k hk => ?_, sep_of fun i j x y hij hx hy => ?_⟩, fun b ⟨k, hk, hkw, hkb⟩ => ?_, fun b ⟨k, hk, hkb⟩ => ?_⟩
  · obtain ⟨j, hj⟩ := List.getElem?_of_mem hk
    rcases rep_at idx m bs j k hn hlt hl hj with ⟨t, ht, _⟩ | ⟨h3, h4⟩
    · exact hm'.holds k (List.mem_of_getElem? ht)
    · refine (hm.holds k (List.mem_of_getElem? h4)).keep hf.size fun b hb => ?_
      exact hf.block b (hylt k (List.mem_of_getElem? h4) b hb) (hold j k h3 h4 b hb)
  · rcases rep_at idx m bs i x hn hlt hl hx with ⟨t, ht, hti⟩ | ⟨h3, h4⟩
    · rcases rep_at idx m bs j y hn hlt hl hy with ⟨u, hu, huj⟩ | ⟨h5, h6⟩
      · exact sep_at hm'.sep (fun e => by subst e; omega) ht hu
      · exact hbo t x j y ht h5 h6
    · rcases rep_at idx m bs j y hn hlt hl hy with ⟨u, hu, huj⟩ | ⟨h5, h6⟩
      · exact (hbo u y i x hu h3 h4).symm
      · exact sep_at hm.sep (by omega) h4 h6
  · obtain ⟨j, hj⟩ := List.getElem?_of_mem hk
    rcases rep_at idx m bs j k hn hlt hl hj with ⟨t, ht, _⟩ | ⟨h3, h4⟩
    · rcases hfr.1 b ⟨k, List.mem_of_getElem? ht, hkw, hkb⟩ with h5 | h5
      · exact .inl (hwrs b h5)
      · exact .inr h5
    · exact .inl ⟨k, List.mem_of_getElem? h4, hkw, hkb⟩
  · obtain ⟨j, hj⟩ := List.getElem?_of_mem hk
    rcases rep_at idx m bs j k hn hlt hl hj with ⟨t, ht, _⟩ | ⟨h3, h4⟩
    · rcases hfr.2 b ⟨k, List.mem_of_getElem? ht, hkb⟩ with h5 | h5
      · exact .inl (hfoots b h5)
      · exact .inr h5
    · exact .inl ⟨k, List.mem_of_getElem? h4, hkb⟩
/-- What a contract hands back, told otherwise. -/
theorem NCall.fits {P : Program} {f : FuncId} {args : List AV} {m : List Blk} {K K' : AV → List Blk → Prop} (h : NCall P f args m K)
    (hk : ∀ r m', K r m' → ∃ r' m'', r'.den = r.den ∧ MemFits m' m'' ∧ K' r' m'') : NCall P f args m K' := by
  rw [NCall_iff] at h ⊢
  refine ⟨h.1, fun w hm => (h.2 w hm).mono fun e w' hq => ?_⟩
  obtain ⟨r, m', h1, rfl, h3, h4, h5⟩ := hq
  obtain ⟨r', m'', h6, h7, h8⟩ := hk r m' h1
  exact ⟨r', m'', h8, by rw [h6], (h7 w' h3).1, h4, fun b hb => h5.1 b ((h7 w' h3).2.1 b hb), fun b hb => h5.2 b ((h7 w' h3).2.2 b hb)⟩
/-- A contract over less. -/
theorem NCall.pre {P : Program} {f : FuncId} {args args' : List AV} {m mL : List Blk} {K : AV → List Blk → Prop} (h : NCall P f args' mL K) (hargs : denL args' = denL args) (hm : MemFits m mL) : NCall P f args m K := by
  refine h.frame hargs (fun w hw => ⟨(hm w hw).1, (hm w hw).2.1⟩) fun r mL' hr => ⟨r, mL', rfl, hr, fun w w' h1 h2 _ h4 => ⟨h2, fun b hb => ?_, fun b hb => ?_⟩⟩
  · exact (h4.1 b hb).imp ((hm w h1).2.1 b) id
  · exact (h4.2 b hb).imp ((hm w h1).2.2 b) id
/-- Some of the blocks, in another order. -/
theorem MemFits.pick {m m' : List Blk} (idx : List Nat) (hn : idx.Nodup) (hmL : idx.map (fun i => m[i]?) = m'.map some) : MemFits m m' := fun w hm => by
  have hlen : idx.length = m'.length := by simpa using congrArg List.length hmL
  have hat : ∀ t : Nat, ∀ k, m'[t]? = some k → ∃ i, idx[t]? = some i ∧ m[i]? = some k := fun t k hk => by
    have e := congrArg (fun l => l[t]?) hmL
    simp only [List.getElem?_map, hk, Option.map_some] at e
    rcases hi : idx[t]? with _ | i
    · rw [hi] at e; simp at e
    · rw [hi] at e
      simp only [Option.map_some, Option.some.injEq] at e
      exact ⟨i, rfl, e⟩
  have hmem : ∀ k ∈ m', k ∈ m := fun k hk => by
    obtain ⟨t, ht, rfl⟩ := List.getElem_of_mem hk
    obtain ⟨i, h1, h2⟩ := hat t _ (List.getElem?_eq_getElem ht)
    exact List.mem_of_getElem? h2
  refine ⟨⟨fun k hk => hm.holds k (hmem k hk), sep_of fun i j x y hij hx hy => ?_⟩, fun b ⟨k, hk, h1, h2⟩ => ⟨k, hmem k hk, h1, h2⟩, fun b ⟨k, hk, h1⟩ => ⟨k, hmem k hk, h1⟩⟩
  obtain ⟨i', h1, h2⟩ := hat i x hx
  obtain ⟨j', h3, h4⟩ := hat j y hy
  refine sep_at hm.sep (fun e => ?_) h2 h4
  subst e
  obtain ⟨hi, e1⟩ := List.getElem?_eq_some_iff.1 h1
  obtain ⟨hj, e2⟩ := List.getElem?_eq_some_iff.1 h3
  exact List.pairwise_iff_getElem.1 hn i j hi hj hij (e1.trans e2.symm)
/-- Cells laid beside what is read alone. -/
def addF (F : Heap) (a : Addr) (vs : List Value) : Heap := ⟨fun b u => F.c b u ∨ ∃ j, b = a.add j ∧ vs[j]? = some u, F.o⟩
/-- No less is known. -/
structure Heap.le (F G : Heap) : Prop where
  c : ∀ a u, F.c a u → G.c a u
  o : ∀ b o, F.o b o → G.o b o
theorem Heap.le_refl (F : Heap) : F.le F := ⟨fun _ _ h => h, fun _ _ h => h⟩
theorem Heap.le.trans {F G K : Heap} (h : F.le G) (k : G.le K) : F.le K := ⟨fun a u x => k.c a u (h.c a u x), fun b o x => k.o b o (h.o b o x)⟩
theorem addF.old {F : Heap} {a : Addr} {vs : List Value} : F.le (addF F a vs) := ⟨fun _ _ h => .inl h, fun _ _ h => h⟩
theorem addF.new {F : Heap} {a : Addr} {vs : List Value} : CellsF (addF F a vs) a 0 vs := by
  have : ∀ (us : List Value) (o : Nat), us = vs.drop o → CellsF (addF F a vs) a o us := by
    intro us
    induction us with
    | nil => intro o _; trivial
    | cons u us ih =>
      intro o e
      have h0 : vs[o]? = some u := by
        have := congrArg (fun l => l[0]?) e
        simpa using this.symm
      exact ⟨.inr ⟨o, rfl, h0⟩, ih (o + 1) (by rw [← List.drop_drop, ← e]; rfl)⟩
  exact this vs 0 rfl
/-- A row, as what is read alone from now on. -/
theorem MemFits.freeze {F : Heap} {a : Addr} {cs : List AV} {v : Value} {t : TypeId} {sz n : Nat} {m : List Blk} : MemFits (hpB F :: ⟨a, cs, .row v t sz n⟩ :: m) (hpB (addF F (addrOf v) (denL cs)) :: m) := fun w hm => by
  have h1 := hm.holds (hpB F) (by simp)
  have h2 := hm.holds ⟨a, cs, .row v t sz n⟩ (by simp)
  have hs := hm.sep
  simp only [List.pairwise_cons] at hs
  have hcell : ∀ b u, (addF F (addrOf v) (denL cs)).c b u → (∃ b' u', F.c b' u' ∧ b'.block = b.block) ∨ (⟨a, cs, .row v t sz n⟩ : Blk).foot b.block := by
    intro b u hu
    rcases hu with hu | ⟨j, rfl, hj⟩
    · exact .inl ⟨b, u, hu, rfl⟩
    · refine .inr ?_
      rw [block_of_add]
      have h3 := h2.1
      rcases h3.2 with ⟨rfl, rfl⟩ | ⟨g, cap, cur, rfl, _⟩
      · have := h3.1
        simp at this
        rw [this] at hj; simp at hj
      · rfl
  have hf : ∀ b, (hpB (addF F (addrOf v) (denL cs))).foot b → (hpB F).foot b ∨ (⟨a, cs, .row v t sz n⟩ : Blk).foot b := by
    rintro b (⟨x, u, hu, rfl⟩ | ⟨o, ho⟩)
    · rcases hcell x u hu with ⟨b', u', h, e⟩ | h
      · exact .inl (.inl ⟨b', u', h, e⟩)
      · exact .inr h
    · exact .inl (.inr ⟨o, ho⟩)
  refine ⟨⟨fun k hk => ?_, ?_⟩, fun b ⟨k, hk, hw, hb⟩ => ?_, fun b ⟨k, hk, hb⟩ => ?_⟩
  · rcases List.mem_cons.1 hk with rfl | hk
    · refine ⟨rfl, fun b u hu => ?_, fun b o ho => h1.2.2 b o ho⟩
      rcases hu with hu | ⟨j, rfl, hj⟩
      · exact h1.2.1 b u hu
      · rw [denL_getElem?] at hj
        cases hx : cs[j]? with
        | none => rw [hx] at hj; cases hj
        | some x =>
          rw [hx] at hj
          injection hj with hj
          have h4 := h2.cell hx
          have h5 : a = addrOf v := h2.2
          rw [← hj, ← h5]
          refine ⟨?_, h4⟩
          rw [block_of_add]
          have := hcell ((addrOf v).add j) _ (.inr ⟨j, rfl, by rw [denL_getElem?, hx]; rfl⟩)
          rcases this with ⟨b', u', h6, e⟩ | h6
          · rw [block_of_add, ← h5] at e
            rw [← e]
            exact (h1.2.1 _ _ h6).1
          · rw [block_of_add, ← h5] at h6
            exact h2.lt h6
    · exact hm.holds k (by simp [hk])
  · rw [List.pairwise_cons]
    refine ⟨fun y hy hw b hb1 hb2 => ?_, hs.2.2⟩
    have hyw : y.wr = true := by
      rcases hw with hw | hw
      · cases hw
      · exact hw
    rcases hf b hb1 with h | h
    · exact hs.1 y (by simp [hy]) (.inr hyw) b h hb2
    · exact hs.2.1 y hy (.inr hyw) b h hb2
  · rcases List.mem_cons.1 hk with rfl | hk
    · cases hw
    · exact ⟨k, by simp [hk], hw, hb⟩
  · rcases List.mem_cons.1 hk with rfl | hk
    · rcases hf b hb with h | h
      · exact ⟨_, by simp, h⟩
      · exact ⟨⟨a, cs, .row v t sz n⟩, by simp, h⟩
    · exact ⟨k, by simp [hk], hb⟩
/-- Nothing is read alone. -/
def noHeap : Heap := ⟨fun _ _ => False, fun _ _ => False⟩
theorem MemFits.noHeap (m : List Blk) : MemFits m (hpB noHeap :: m) := fun w hm => by
  refine ⟨⟨fun k hk => ?_, ?_⟩, fun b ⟨k, hk, hw, hb⟩ => ?_, fun b ⟨k, hk, hb⟩ => ?_⟩
  · rcases List.mem_cons.1 hk with rfl | hk
    · exact ⟨rfl, fun a u h => h.elim, fun b o h => h.elim⟩
    · exact hm.holds k hk
  · rw [List.pairwise_cons]
    exact ⟨fun y _ _ b hb _ => by rcases hb with ⟨a, u, h, _⟩ | ⟨o, h⟩ <;> exact h.elim, hm.sep⟩
  · rcases List.mem_cons.1 hk with rfl | hk
    · cases hw
    · exact ⟨k, hk, hw, hb⟩
  · rcases List.mem_cons.1 hk with rfl | hk
    · rcases hb with ⟨a, u, h, _⟩ | ⟨o, h⟩ <;> exact h.elim
    · exact ⟨k, hk, hb⟩
/-- Less is known of what is read alone. -/
theorem MemFits.less {F G : Heap} (h : G.le F) (m : List Blk) : MemFits (hpB F :: m) (hpB G :: m) := fun w hm => by
  have hf : ∀ b, (hpB G).foot b → (hpB F).foot b := by
    rintro b (⟨a, u, hu, e⟩ | ⟨o, ho⟩)
    · exact .inl ⟨a, u, h.c a u hu, e⟩
    · exact .inr ⟨o, h.o b o ho⟩
  have h1 := hm.holds (hpB F) (by simp)
  have hs := hm.sep
  rw [List.pairwise_cons] at hs
  refine ⟨⟨fun k hk => ?_, ?_⟩, fun b ⟨k, hk, hw, hb⟩ => ?_, fun b ⟨k, hk, hb⟩ => ?_⟩
  · rcases List.mem_cons.1 hk with rfl | hk
    · exact ⟨rfl, fun a u hu => h1.2.1 a u (h.c a u hu), fun b o ho => h1.2.2 b o (h.o b o ho)⟩
    · exact hm.holds k (by simp [hk])
  · rw [List.pairwise_cons]
    exact ⟨fun y hy hw b hb1 hb2 => hs.1 y hy (hw.imp (fun h => by cases h) id) b (hf b hb1) hb2, hs.2⟩
  · rcases List.mem_cons.1 hk with rfl | hk
    · cases hw
    · exact ⟨k, by simp [hk], hw, hb⟩
  · rcases List.mem_cons.1 hk with rfl | hk
    · exact ⟨_, by simp, hf b hb⟩
    · exact ⟨k, by simp [hk], hb⟩
/-- A call that is known otherwise: it hands back a value, and below the heap's end all is as it was. -/
theorem ncall_below {P : Program} {f : FuncId} {args : List AV} {m : List Blk} {r : AV} (hen : ∀ (as : Array Value) (w : World), (callFunc f as).run P w = .ok (.enter f as) w)
    (h : ∀ w, MemOk m w → Calls P f (denL args).toArray w fun e w' => e = .returned r.den ∧ w'.os = w.os ∧ w'.tape = w.tape ∧ w'.output = w.output ∧ w.heap.size ≤ w'.heap.size ∧ ∀ k, k < w.heap.size → w'.heap[k]? = w.heap[k]?) : NCall P f args m fun r' m' => r' = r ∧ m' = m := by
  rw [NCall_iff]
  refine ⟨hen, fun w hm => (h w hm).mono fun e w' ⟨he, h1, h2, h3, h4, h5⟩ => ⟨r, m, ⟨rfl, rfl⟩, he, ?_, ⟨h1, h2, h3, h4, fun k hk _ => h5 k hk⟩, fun _ hb => .inl hb, fun _ hb => .inl hb⟩⟩
  exact hm.keep h4 fun k hk b hb => h5 b ((hm.holds k hk).lt hb)
/-- The same, reckoned. -/
def repK : List Blk → List Nat → List Blk → (List Blk → Prop) → Prop
  | m, [], [], K => K m
  | m, [], b :: bs, K => appK m b fun m' => repK m' [] bs K
  | m, i :: is, b :: bs, K => setBlkK m i b fun m' => repK m' is bs K
  | _, _ :: _, [], _ => False
theorem repK_spec {K : List Blk → Prop} : ∀ (bs : List Blk) (m : List Blk) (idx : List Nat), repK m idx bs K → K (rep m idx bs)
  | [], m, [], h => by unfold repK at h; unfold rep; rwa [List.append_nil]
  | b :: bs, m, [], h => by
    unfold repK at h
    have h2 := repK_spec bs _ _ (appK_spec h)
    unfold rep at h2 ⊢
    rwa [List.append_assoc, List.singleton_append] at h2
  | b :: bs, m, i :: is, h => by
    unfold repK at h
    have h2 := repK_spec bs _ _ (setBlkK_spec h).2
    unfold rep
    exact h2
  | [], m, _ :: _, h => by unfold repK at h; exact h.elim
/-- A contract may be used over some of the blocks. -/
theorem NCall.subw {P : Program} {f : FuncId} {args : List AV} {m : List Blk} {K KL : AV → List Blk → Prop} (idx : List Nat) (args' : List AV) (mL : List Blk) (h : NCall P f args' mL KL) (hargs : denL args' = denL args)
    (hn : idx.Nodup) (hmL : idx.map (fun i => m[i]?) = mL.map some)
    (hK : ∀ r bs, KL r bs → idx.length ≤ bs.length ∧ ∃ r', r'.den = r.den ∧ repK m idx bs (K r')) : NCall P f args m K :=
  h.sub idx args' mL hargs hn hmL fun r bs hr => by
    obtain ⟨h1, r', h3, h4⟩ := hK r bs hr
    exact ⟨h1, r', h3, repK_spec _ _ _ h4⟩
end Go.Sx


