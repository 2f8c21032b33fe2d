/-
  What comes of a packet is no more than a policy is wide; at a switch it is the same. Plain; How wide the parts of a policy are. Plain; Conditions: for which packets they hold, by the document; Conditions as the row reads them; Policies as the row reads them.
-/
import Derived.Test.YtngodakgbldlpaaGreatDoorTJ1
import Derived.Test.YtngodakgbldlpaaGreatDoorTJ4
import Derived.Test.YtngodakgbldlpaaGreatDoorTPd9
import Derived.Test.YtngodakgbldlpaaGreatDoorTPd2
import Derived.Test.YtngodakgbldlpaaGreatDoorRows
import Derived.ChangeArms
import Derived.Test.YtngodakgbldlpaaGreatDoorTPo2
namespace Go.Proofs.YtngodakgbldlpaaGreatDoor
open Go.Sx
set_option maxRecDepth 20000
set_option linter.unusedVariables false
namespace Po
/-! ### How many come -/
theorem ins_len (s : S) (l : List S) : (ins s l).length ≤ l.length + 1 := by
  induction l with
  | nil => simp [ins]
  | cons x l ih =>
    unfold ins
    split
    · simp
    · split
      · simp
      · simp only [List.length_cons]; omega
theorem both_len : ∀ (b a : List S), (both a b).length ≤ a.length + b.length
  | [], a => by simp [both]
  | x :: b, a => by
    have h1 := both_len b (ins x a)
    have h2 := ins_len x a
    unfold both at *
    rw [List.foldl_cons, List.length_cons]
    omega
theorem fold_len (sw : Int) (y : T) (w : Nat) (hw : ∀ s, (runs sw y s).length ≤ w) : ∀ (out a : List S), (out.foldl (fun next t => both next (runs sw y t)) a).length ≤ a.length + out.length * w
  | [], a => by simp
  | x :: out, a => by
    have h1 := fold_len sw y w hw out (both a (runs sw y x))
    have h2 := both_len (runs sw y x) a
    have h3 := hw x
    rw [List.foldl_cons, List.length_cons, Nat.succ_mul]
    omega
theorem wide_pos : ∀ (n : Nat) (x : T), tot x ≤ n → fits x = true → 1 ≤ wide x
  | 0, x, hn, _ => absurd (tot_pos x) (by omega)
  | n + 1, ⟨k, p, f, v, l⟩, hn, h => by
    obtain ⟨hsh, hfl⟩ := fits_iff.1 h
    have ih : ∀ y ∈ l, 1 ≤ wide y := fun y hy => wide_pos n y (by have := tot_lt (k := k) (q := p) (f := f) (v := v) hy; omega) (hfl y hy)
    have hS : ∀ (l : List T) (m : Nat), 1 ≤ m → (∀ y ∈ l, 1 ≤ wide y) → 1 ≤ wideS m l := fun l => by
      induction l with
      | nil => intro m hm _; exact hm
      | cons y l ihl =>
        intro m hm hy
        rw [wideS]
        refine ihl _ ?_ fun z hz => hy z (by simp [hz])
        have := Nat.mul_le_mul hm (hy y (by simp))
        omega
    have hU : ∀ (l : List T) (m : Nat), (l ≠ [] ∨ 1 ≤ m) → (∀ y ∈ l, 1 ≤ wide y) → 1 ≤ wideU m l := fun l => by
      induction l with
      | nil => intro m hm _; exact hm.resolve_left fun h => h rfl
      | cons y l ihl =>
        intro m hm hy
        rw [wideU]
        refine ihl _ (.inr ?_) fun z hz => hy z (by simp [hz])
        have := hy y (by simp)
        omega
    rw [wide_mk]
    rcases hsh with ⟨rfl, _, _, hl⟩ | ⟨rfl, _, _, _, hl⟩ | ⟨rfl | rfl, _, _, hl1, hl2⟩ | ⟨rfl, _, _, hl⟩
    · simp
    · simp
    · simp; exact hS l 1 (Nat.le_refl _) ih
    · simp; exact hU l 0 (.inl fun e => by rw [e] at hl1; simp at hl1) ih
    · simp
      match l, hl with
      | [a, b], _ =>
        have h1 := ih a (by simp)
        have h2 := (wideI_ge [a, b] 0).2 a (by simp)
        omega
theorem wideS_ge {l : List T} (hw : ∀ y ∈ l, 1 ≤ wide y) : ∀ m, 1000 ≤ m → 1000 ≤ wideS m l := by
  induction l with
  | nil => intro m hm; exact hm
  | cons y l ih =>
    intro m hm
    rw [wideS]
    refine ih (fun z hz => hw z (by simp [hz])) _ ?_
    have := Nat.mul_le_mul hm (hw y (by simp))
    omega
theorem wideU_ge {l : List T} : ∀ m, 1000 ≤ m → 1000 ≤ wideU m l := by
  induction l with
  | nil => intro m hm; exact hm
  | cons y l ih =>
    intro m hm
    rw [wideU]
    exact ih _ (by omega)
theorem runsQ_len (sw : Int) : ∀ (l : List T) (out : List S) (m : Nat), (∀ y ∈ l, ∀ s, wide y < 1000 → (runs sw y s).length ≤ wide y) → (∀ y ∈ l, 1 ≤ wide y) → 1 ≤ m → out.length ≤ m → wideS m l < 1000 → (runsQ sw l out).length ≤ wideS m l
  | [], out, m, _, _, _, ho, _ => by rw [runsQ, wideS]; exact ho
  | y :: l, out, m, hy, hp, hm, ho, hw => by
    rw [wideS] at hw ⊢
    rw [runsQ]
    have hlt : m * wide y < 1000 := Classical.byContradiction fun hn => by
      have := wideS_ge (l := l) (fun z hz => hp z (by simp [hz])) (min (m * wide y) 1000) (by omega)
      omega
    have hyl : wide y < 1000 := Nat.lt_of_le_of_lt (Nat.le_mul_of_pos_left _ hm) hlt
    have hmin : min (m * wide y) 1000 = m * wide y := by omega
    rw [hmin] at hw ⊢
    refine runsQ_len sw l _ _ (fun z hz => hy z (by simp [hz])) (fun z hz => hp z (by simp [hz])) (Nat.mul_le_mul hm (hp y (by simp))) ?_ hw
    have := fold_len sw y (wide y) (fun s => hy y (by simp) s hyl) out []
    have h2 := Nat.mul_le_mul_right (wide y) ho
    simp only [List.length_nil, Nat.zero_add] at this
    omega
theorem runsU_len (sw : Int) (s : S) : ∀ (l : List T) (out : List S) (m : Nat), (∀ y ∈ l, wide y < 1000 → (runs sw y s).length ≤ wide y) → out.length ≤ m → wideU m l < 1000 → (runsU sw l s out).length ≤ wideU m l
  | [], out, m, _, ho, _ => by rw [runsU, wideU]; exact ho
  | y :: l, out, m, hy, ho, hw => by
    rw [wideU] at hw ⊢
    rw [runsU]
    have hlt : m + wide y < 1000 := Classical.byContradiction fun hn => by
      have := wideU_ge (l := l) (min (m + wide y) 1000) (by omega)
      omega
    have hmin : min (m + wide y) 1000 = m + wide y := by omega
    rw [hmin] at hw ⊢
    refine runsU_len sw s l _ _ (fun z hz => hy z (by simp [hz])) ?_ hw
    have h1 := both_len (runs sw y s) out
    have h2 := hy y (by simp) (by omega)
    omega
theorem runs_len (sw : Int) : ∀ (n : Nat) (x : T), tot x ≤ n → fits x = true → ∀ s, wide x < 1000 → (runs sw x s).length ≤ wide x
  | 0, x, hn, _ => absurd (tot_pos x) (by omega)
  | n + 1, ⟨k, p, f, v, l⟩, hn, h => fun s hw => by
    obtain ⟨hsh, hfl⟩ := fits_iff.1 h
    have ih : ∀ y ∈ l, ∀ s, wide y < 1000 → (runs sw y s).length ≤ wide y := fun y hy => runs_len sw n y (by have := tot_lt (k := k) (q := p) (f := f) (v := v) hy; omega) (hfl y hy)
    have hp : ∀ y ∈ l, 1 ≤ wide y := fun y hy => wide_pos _ y (Nat.le_refl _) (hfl y hy)
    rw [wide_mk] at hw ⊢
    rw [runs_mk]
    rcases hsh with ⟨rfl, _, _, hl⟩ | ⟨rfl, _, _, _, hl⟩ | ⟨rfl | rfl, _, _, hl1, hl2⟩ | ⟨rfl, _, _, hl⟩
    · simp
      split <;> simp
    · simp
    · simp at hw ⊢
      exact runsQ_len sw l [s] 1 ih hp (Nat.le_refl _) (by simp) hw
    · simp at hw ⊢
      exact runsU_len sw s l [] 0 (fun y hy => ih y hy s) (by simp) hw
    · simp at hw ⊢
      match l, hl with
      | [a, b], _ =>
        have h1 := (wideI_ge [a, b] 0).2 a (by simp)
        have h2 := (wideI_ge [a, b] 0).2 b (by simp)
        split
        · rw [runsA]; exact Nat.le_trans (ih a (by simp) s (by omega)) h1
        · rw [runsB, runsA]; exact Nat.le_trans (ih b (by simp) s (by omega)) h2
theorem runs_64 (sw : Int) (x : T) (h : right x = true) (s : S) : (runs sw x s).length ≤ 64 := by
  have hf := right_fits' h
  unfold right at h
  simp only [Bool.and_eq_true, decide_eq_true_eq] at h
  exact Nat.le_trans (runs_len sw _ x (Nat.le_refl _) hf s (by omega)) h.2.2.2
end Po
end Go.Proofs.YtngodakgbldlpaaGreatDoor
namespace Go.Proofs.YtngodakgbldlpaaGreatDoor
open Go.Sx
set_option maxRecDepth 20000
set_option linter.unusedVariables false
namespace Po
end Po
end Go.Proofs.YtngodakgbldlpaaGreatDoor
namespace Go.Proofs.YtngodakgbldlpaaGreatDoor
open Go.Sx
set_option maxRecDepth 20000
set_option linter.unusedSimpArgs false
set_option linter.unusedVariables false
set_option maxHeartbeats 4000000
set_option linter.unusedVariables false
namespace Pd
end Pd
end Go.Proofs.YtngodakgbldlpaaGreatDoor
namespace Go.Proofs.YtngodakgbldlpaaGreatDoor
open Go.Sx Go.RowKit Go.ChangeShapes Go.WideShapes
set_option maxRecDepth 20000
set_option linter.unusedVariables false
theorem fit64 {x : Int} (h : (Lit.int .i64 x).wf = true) : -9223372036854775808 ≤ x ∧ x ≤ 9223372036854775807 := by
  have e1 : IntKind.i64.min = -9223372036854775808 := by decide
  have e2 : IntKind.i64.max = 9223372036854775807 := by decide
  simp only [Lit.wf, e1, e2, Bool.and_eq_true, decide_eq_true_eq] at h
  exact h
theorem bulk_le {H : Type} : ∀ (l : List Pd.T) (es : List (DataW H × List MemPlace)), l.length = es.length → (∀ (i : Nat) (p : Pd.T) (e : DataW H × List MemPlace), l[i]? = some p → es[i]? = some e → Pd.size p ≤ Rows.uptoBulk e.1) → Pd.sizeL l ≤ Rows.uptoBulkAll (es.map (·.1))
  | [], _, _, _ => by rw [Pd.sizeL]; exact Nat.zero_le _
  | p :: l, [], h, _ => by simp at h
  | p :: l, e :: es, h, hi => by
    have h1 := hi 0 p e rfl rfl
    have h2 := bulk_le l es (by simpa using h) fun i q f hq hf => hi (i + 1) q f (by simpa using hq) (by simpa using hf)
    rw [Pd.sizeL, List.map_cons, Rows.uptoBulkAll]
    omega
section
variable {H : Type} {enc : TypeId × Value → H} {W : World} {spare : Nat → Bool} {held : Bool}
theorem open26 (t tS : TypeId) (fs : Array Field) (hT : Tryz.prog.underlying t = some (.struct fs)) (hS : Tryz.prog.underlying tS = some (.slice t)) (ti : TypeId) (hI : Tryz.prog.underlying ti = some (.int .i64))
    (hfs : fs.toList.map (fun f => (f.type, f.offset)) = [(ti, 0), (ti, 1), (ti, 2), (tS, 3)]) (hc : Tryz.prog.cellsOf t = 4) (hci : Tryz.prog.cellsOf ti = 1) (hcs : Tryz.prog.cellsOf tS = 1) :
    ∀ (N fuel : Nat) (cs : List Value) (x : DataW H × List MemPlace), fuel ≤ N → DataW.trod enc Tryz.prog W 0 spare held fuel t cs = some x → ∃ p : Pd.T, Pd.R (cellsW W) p cs ∧ Pd.in64 p ∧ Pd.size p ≤ Rows.uptoBulk x.1
  | 0, fuel, cs, x, hN, hx => by
    obtain ⟨xs, n, h1, _⟩ := DataW.trod_struct hT hx
    omega
  | N + 1, fuel, cs, x, hN, hx => by
    obtain ⟨xs, n, h1, h2, hlen, hxl, hf⟩ := DataW.trod_struct hT hx
    have hfs4 : fs.size = 4 := by have := congrArg List.length hfs; simpa using this
    have hat : ∀ i (hi : i < 4), ∃ f, fs[i]? = some f ∧ (f.type, f.offset) = [(ti, 0), (ti, 1), (ti, 2), (tS, 3)][i] := fun i hi => by
      have hi' : i < fs.size := by omega
      refine ⟨fs[i], Array.getElem?_eq_getElem hi', ?_⟩
      have := congrArg (fun l => l[i]?) hfs
      simp only [List.getElem?_map, Array.getElem?_toList, Array.getElem?_eq_getElem hi', Option.map_some, List.getElem?_eq_getElem (show i < [(ti, 0), (ti, 1), (ti, 2), (tS, 3)].length by simpa using hi), Option.some.injEq] at this
      exact this
    match cs, (hlen.trans hc) with
    | [c0, c1, c2, c3], _ =>
      match xs, (hxl.trans hfs4) with
      | [x0, x1, x2, x3], _ =>
        obtain ⟨f0, g0, e0⟩ := hat 0 (by decide)
        obtain ⟨f1, g1, e1⟩ := hat 1 (by decide)
        obtain ⟨f2, g2, e2⟩ := hat 2 (by decide)
        obtain ⟨f3, g3, e3⟩ := hat 3 (by decide)
        simp only [List.getElem_cons_zero, List.getElem_cons_succ, Prod.mk.injEq] at e0 e1 e2 e3
        have t0 := hf 0 f0 g0
        have t1 := hf 1 f1 g1
        have t2 := hf 2 f2 g2
        have t3 := hf 3 f3 g3
        rw [e0.1, e0.2, hci] at t0
        rw [e1.1, e1.2, hci] at t1
        rw [e2.1, e2.2, hci] at t2
        rw [e3.1, e3.2, hcs] at t3
        simp only [List.drop_zero, List.take_succ_cons, List.take_zero, List.drop_succ_cons, List.getElem?_cons_zero, List.getElem?_cons_succ] at t0 t1 t2 t3
        obtain ⟨k, ek, _, wk⟩ := DataW.trod_int hI t0
        obtain ⟨a, ea, _, wa⟩ := DataW.trod_int hI t1
        obtain ⟨v, ev, _, wv⟩ := DataW.trod_int hI t2
        cases ek
        cases ea
        cases ev
        rcases DataW.trod_slice hS t3 with ⟨es, _⟩ | ⟨b, len, cap, elems, rest, n', hn', es, ex3, _, hl, hm, hel, hat', _⟩
        · cases es
          refine ⟨.mk k a v [], Pd.R.of (p := .mk k a v []) (A := none) (cap := 0) RowF.nil, by simp only [Pd.in64, Pd.in64L, and_true]; exact ⟨fit64 wk, fit64 wa, fit64 wv⟩, ?_⟩
          rw [Pd.size, Pd.sizeL, h2]
          simp only [Rows.uptoBulk]
          omega
        · cases es
          have hel2 : ∀ i, i < len → ∃ p : Pd.T, (∃ cs', cs'.length = 4 ∧ CellsF (cellsW W) b (i * 4) cs' ∧ Pd.R (cellsW W) p cs') ∧ Pd.in64 p ∧ ∀ e, elems[i]? = some e → Pd.size p ≤ Rows.uptoBulk e.1 := fun i hi => by
            have h1 := hat' i hi
            rw [List.getElem?_eq_getElem (by omega), Option.bind_eq_some_iff] at h1
            obtain ⟨cs', h3, h4⟩ := h1
            obtain ⟨p, h5, h6, h7⟩ := open26 t tS fs hT hS ti hI hfs hc hci hcs N n' cs' _ (by omega) h4
            obtain ⟨_, h8, h9⟩ := World.cells?_some h3
            rw [hc] at h8 h9
            refine ⟨p, ⟨cs', by omega, cellsF_of cs' _ fun j u hj => ?_, h5⟩, h6, fun e he => ?_⟩
            · have := h9 j (by have := (List.getElem?_eq_some_iff.1 hj).1; omega)
              rw [add_of_add] at this
              exact this.trans hj
            · rw [List.getElem?_eq_getElem (by omega)] at he
              cases he
              exact h7
          obtain ⟨l, hll, hl2⟩ := list_of hel2
          subst hll
          have hrow : Pd.Row (cellsW W) (.slice (some b) l.length cap) l := ⟨⟨some b, cap, rfl, hl, by simp⟩, fun i p hp => by
            obtain ⟨⟨cs', h3, h4, h5⟩, _⟩ := hl2 i p hp
            exact ⟨cs', h5, h3, h4⟩⟩
          refine ⟨.mk k a v l, Pd.R.of (p := .mk k a v l) (A := some b) (cap := cap) hrow, ?_, ?_⟩
          · simp only [Pd.in64, Pd.in64L_iff]
            refine ⟨⟨fit64 wk, fit64 wa, fit64 wv⟩, fun p hp => ?_⟩
            obtain ⟨i, hi⟩ := List.getElem?_of_mem hp
            exact (hl2 i p hi).2.1
          · have hb := bulk_le l elems hel.symm fun i p e hp he => (hl2 i p hp).2.2 e he
            have e3' : x3.1 = .slice (elems.map (·.1)) (rest.map (·.1)) := by rw [ex3]
            rw [Pd.size, h2]
            simp only [List.map_cons, List.map_nil, Rows.uptoBulk, Rows.uptoBulkAll, e3']
            omega
end
end Go.Proofs.YtngodakgbldlpaaGreatDoor
namespace Go.Proofs.YtngodakgbldlpaaGreatDoor
open Go.Sx Go.RowKit Go.ChangeShapes Go.WideShapes
set_option maxRecDepth 20000
set_option linter.unusedVariables false
theorem bulk27_le {H : Type} : ∀ (l : List Po.T) (es : List (DataW H × List MemPlace)), l.length = es.length → (∀ (i : Nat) (p : Po.T) (e : DataW H × List MemPlace), l[i]? = some p → es[i]? = some e → Po.tot p ≤ Rows.uptoBulk e.1) → Po.totL l ≤ Rows.uptoBulkAll (es.map (·.1))
  | [], _, _, _ => by rw [Po.totL]; exact Nat.zero_le _
  | p :: l, [], h, _ => by simp at h
  | p :: l, e :: es, h, hi => by
    have h1 := hi 0 p e rfl rfl
    have h2 := bulk27_le l es (by simpa using h) fun i q f hq hf => hi (i + 1) q f (by simpa using hq) (by simpa using hf)
    rw [Po.totL, List.map_cons, Rows.uptoBulkAll]
    omega
mutual
def Po.in64 : Po.T → Prop
  | .mk k p f v l => ((-9223372036854775808 ≤ k ∧ k ≤ 9223372036854775807) ∧ (-9223372036854775808 ≤ f ∧ f ≤ 9223372036854775807) ∧ (-9223372036854775808 ≤ v ∧ v ≤ 9223372036854775807)) ∧ Pd.in64 p ∧ Po.in64L l
def Po.in64L : List Po.T → Prop
  | [] => True
  | x :: l => Po.in64 x ∧ Po.in64L l
end
theorem Po.in64L_iff (l : List Po.T) : Po.in64L l ↔ ∀ p ∈ l, Po.in64 p := by
  induction l with
  | nil => simp [Po.in64L]
  | cons p l ih => simp only [Po.in64L, ih, List.mem_cons, forall_eq_or_imp]
section
variable {H : Type} {enc : TypeId × Value → H} {W : World} {spare : Nat → Bool} {held : Bool}
theorem open27 (t tS : TypeId) (fs : Array Field) (hT : Tryz.prog.underlying t = some (.struct fs)) (hS : Tryz.prog.underlying tS = some (.slice t)) (ti : TypeId) (hI : Tryz.prog.underlying ti = some (.int .i64))
    (tP : TypeId) (hP : ∀ (fuel : Nat) (cs : List Value) (x : DataW H × List MemPlace), DataW.trod enc Tryz.prog W 0 spare held fuel tP cs = some x → ∃ p : Pd.T, Pd.R (cellsW W) p cs ∧ Pd.in64 p ∧ Pd.size p ≤ Rows.uptoBulk x.1)
    (hfs : fs.toList.map (fun f => (f.type, f.offset)) = [(ti, 0), (tP, 1), (ti, 5), (ti, 6), (tS, 7)]) (hc : Tryz.prog.cellsOf t = 8) (hci : Tryz.prog.cellsOf ti = 1) (hcp : Tryz.prog.cellsOf tP = 4) (hcs : Tryz.prog.cellsOf tS = 1) :
    ∀ (N fuel : Nat) (cs : List Value) (x : DataW H × List MemPlace), fuel ≤ N → DataW.trod enc Tryz.prog W 0 spare held fuel t cs = some x → ∃ p : Po.T, Po.R (cellsW W) p cs ∧ Po.in64 p ∧ Po.tot p ≤ Rows.uptoBulk x.1
  | 0, fuel, cs, x, hN, hx => by
    obtain ⟨xs, n, h1, _⟩ := DataW.trod_struct hT hx
    omega
  | N + 1, fuel, cs, x, hN, hx => by
    obtain ⟨xs, n, h1, h2, hlen, hxl, hf⟩ := DataW.trod_struct hT hx
    have hfs4 : fs.size = 5 := by have := congrArg List.length hfs; simpa using this
    have hat : ∀ i (hi : i < 5), ∃ f, fs[i]? = some f ∧ (f.type, f.offset) = [(ti, 0), (tP, 1), (ti, 5), (ti, 6), (tS, 7)][i] := fun i hi => by
      have hi' : i < fs.size := by omega
      refine ⟨fs[i], Array.getElem?_eq_getElem hi', ?_⟩
      have := congrArg (fun l => l[i]?) hfs
      simp only [List.getElem?_map, Array.getElem?_toList, Array.getElem?_eq_getElem hi', Option.map_some, List.getElem?_eq_getElem (show i < [(ti, 0), (tP, 1), (ti, 5), (ti, 6), (tS, 7)].length by simpa using hi), Option.some.injEq] at this
      exact this
    match cs, (hlen.trans hc) with
    | [c0, c1, c2, c3, c4, c5, c6, c7], _ =>
      match xs, (hxl.trans hfs4) with
      | [x0, x1, x2, x3, x4], _ =>
        obtain ⟨f0, g0, e0⟩ := hat 0 (by decide)
        obtain ⟨f1, g1, e1⟩ := hat 1 (by decide)
        obtain ⟨f2, g2, e2⟩ := hat 2 (by decide)
        obtain ⟨f3, g3, e3⟩ := hat 3 (by decide)
        obtain ⟨f4, g4, e4⟩ := hat 4 (by decide)
        simp only [List.getElem_cons_zero, List.getElem_cons_succ, Prod.mk.injEq] at e0 e1 e2 e3 e4
        have t0 := hf 0 f0 g0
        have t1 := hf 1 f1 g1
        have t2 := hf 2 f2 g2
        have t3 := hf 3 f3 g3
        have t4 := hf 4 f4 g4
        rw [e0.1, e0.2, hci] at t0
        rw [e1.1, e1.2, hcp] at t1
        rw [e2.1, e2.2, hci] at t2
        rw [e3.1, e3.2, hci] at t3
        rw [e4.1, e4.2, hcs] at t4
        simp only [List.drop_zero, List.take_succ_cons, List.take_zero, List.drop_succ_cons, List.getElem?_cons_zero, List.getElem?_cons_succ] at t0 t1 t2 t3 t4
        obtain ⟨k, ek, _, wk⟩ := DataW.trod_int hI t0
        obtain ⟨q, hq, hqi, hqs⟩ := hP _ _ _ t1
        obtain ⟨a, ea, _, wa⟩ := DataW.trod_int hI t2
        obtain ⟨v, ev, _, wv⟩ := DataW.trod_int hI t3
        cases ek
        cases ea
        cases ev
        obtain ⟨pA, pcap, hprow, hpe⟩ := hq.inv
        cases hpe
        rcases DataW.trod_slice hS t4 with ⟨es, _⟩ | ⟨b, len, cap, elems, rest, n', hn', es, ex3, _, hl, hm, hel, hat', _⟩
        · cases es
          refine ⟨.mk k q a v [], Po.R.of (x := .mk k q a v []) (A := none) (cap := 0) ⟨hprow, RowF.nil⟩, by simp only [Po.in64, Po.in64L, and_true]; exact ⟨⟨fit64 wk, fit64 wa, fit64 wv⟩, hqi⟩, ?_⟩
          rw [Po.tot_mk, Po.totL, h2]
          simp only [List.map_cons, List.map_nil, Rows.uptoBulk, Rows.uptoBulkAll]
          omega
        · cases es
          have hel2 : ∀ i, i < len → ∃ p : Po.T, (∃ cs', cs'.length = 8 ∧ CellsF (cellsW W) b (i * 8) cs' ∧ Po.R (cellsW W) p cs') ∧ Po.in64 p ∧ ∀ e, elems[i]? = some e → Po.tot p ≤ Rows.uptoBulk e.1 := fun i hi => by
            have h1 := hat' i hi
            rw [List.getElem?_eq_getElem (by omega), Option.bind_eq_some_iff] at h1
            obtain ⟨cs', h3, h4⟩ := h1
            obtain ⟨p, h5, h6, h7⟩ := open27 t tS fs hT hS ti hI tP hP hfs hc hci hcp hcs N n' cs' _ (by omega) h4
            obtain ⟨_, h8, h9⟩ := World.cells?_some h3
            rw [hc] at h8 h9
            refine ⟨p, ⟨cs', by omega, cellsF_of cs' _ fun j u hj => ?_, h5⟩, h6, fun e he => ?_⟩
            · have := h9 j (by have := (List.getElem?_eq_some_iff.1 hj).1; omega)
              rw [add_of_add] at this
              exact this.trans hj
            · rw [List.getElem?_eq_getElem (by omega)] at he
              cases he
              exact h7
          obtain ⟨l, hll, hl2⟩ := list_of hel2
          subst hll
          have hrow : Po.Row (cellsW W) (.slice (some b) l.length cap) l := ⟨⟨some b, cap, rfl, hl, by simp⟩, fun i p hp => by
            obtain ⟨⟨cs', h3, h4, h5⟩, _⟩ := hl2 i p hp
            exact ⟨cs', h5, h3, h4⟩⟩
          refine ⟨.mk k q a v l, Po.R.of (x := .mk k q a v l) (A := some b) (cap := cap) ⟨hprow, hrow⟩, ?_, ?_⟩
          · simp only [Po.in64, Po.in64L_iff]
            refine ⟨⟨fit64 wk, fit64 wa, fit64 wv⟩, hqi, fun p hp => ?_⟩
            obtain ⟨i, hi⟩ := List.getElem?_of_mem hp
            exact (hl2 i p hi).2.1
          · have hb := bulk27_le l elems hel.symm fun i p e hp he => (hl2 i p hp).2.2 e he
            have e4' : x4.1 = .slice (elems.map (·.1)) (rest.map (·.1)) := by rw [ex3]
            rw [Po.tot_mk, h2]
            simp only [List.map_cons, List.map_nil, Rows.uptoBulk, Rows.uptoBulkAll, e4']
            omega
end
end Go.Proofs.YtngodakgbldlpaaGreatDoor
