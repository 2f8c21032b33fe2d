/-
  What is told of a packet is parsed as it was. Plain laws.
-/
import Derived.Test.YtokbckflleaplaaDoorPk3
import Derived.Test.YtokbckflleaplaaDoorPk5
import Derived.Laws.RangeString
namespace Go.Proofs.YtokbckflleaplaaDoor
open Go.Sx
set_option linter.unusedVariables false
namespace Pk
/-! ### Fields -/
theorem at_of {l : List UInt8} {pos : Nat} {b : UInt8} (h : l[pos]? = some b) (hb : b.toNat < 128) : pos < (⟨l.toArray⟩ : ByteArray).size ∧ Utf8.decode ⟨l.toArray⟩ pos = (b.toNat, 1) := by
  have hlt : pos < l.length := (List.getElem?_eq_some_iff.1 h).1
  have hs : (⟨l.toArray⟩ : ByteArray).size = l.length := by simp [ByteArray.size]
  have hp : pos < (⟨l.toArray⟩ : ByteArray).size := by omega
  have e : (⟨l.toArray⟩ : ByteArray)[pos]'hp = b := by
    have := (List.getElem?_eq_some_iff.1 h).2
    simpa [ByteArray.getElem_eq_getElem_data] using this
  refine ⟨hp, ?_⟩
  rw [Go.decode_ascii _ pos hp (by rw [e]; exact hb), e]
theorem step_in {l : List UInt8} {pos : Nat} {b : UInt8} (h : l[pos]? = some b) (hb : b.toNat < 128) (hn : sep b.toNat = false) (f : Nat) (a : Nat) (acc : List (Nat × Nat)) :
    Lib.spansFromP sep ⟨l.toArray⟩ (f + 1) pos (some a) acc = Lib.spansFromP sep ⟨l.toArray⟩ f (pos + 1) (some a) acc := by
  obtain ⟨h1, h2⟩ := at_of h hb
  rw [Lib.spansFromP, if_pos h1, h2]
  simp [hn]
theorem step_open {l : List UInt8} {pos : Nat} {b : UInt8} (h : l[pos]? = some b) (hb : b.toNat < 128) (hn : sep b.toNat = false) (f : Nat) (acc : List (Nat × Nat)) :
    Lib.spansFromP sep ⟨l.toArray⟩ (f + 1) pos none acc = Lib.spansFromP sep ⟨l.toArray⟩ f (pos + 1) (some pos) acc := by
  obtain ⟨h1, h2⟩ := at_of h hb
  rw [Lib.spansFromP, if_pos h1, h2]
  simp [hn]
theorem step_sep {l : List UInt8} {pos : Nat} {b : UInt8} (h : l[pos]? = some b) (hb : b.toNat < 128) (hn : sep b.toNat = true) (f : Nat) (a : Nat) (acc : List (Nat × Nat)) :
    Lib.spansFromP sep ⟨l.toArray⟩ (f + 1) pos (some a) acc = Lib.spansFromP sep ⟨l.toArray⟩ f (pos + 1) none (acc ++ [(a, pos)]) := by
  obtain ⟨h1, h2⟩ := at_of h hb
  rw [Lib.spansFromP, if_pos h1, h2]
  simp [hn]
def digs (d : List UInt8) : Prop := ∀ b ∈ d, 48 ≤ b.toNat ∧ b.toNat ≤ 57
theorem dig_sep {b : UInt8} (h : 48 ≤ b.toNat ∧ b.toNat ≤ 57) : b.toNat < 128 ∧ sep b.toNat = false := by
  refine ⟨by omega, ?_⟩
  unfold sep
  rw [decide_eq_false (by omega), decide_eq_false (by omega)]
  rfl
theorem go_in : ∀ (d pre post : List UInt8), digs d → ∀ (f a : Nat) (acc : List (Nat × Nat)),
    Lib.spansFromP sep ⟨(pre ++ d ++ post).toArray⟩ (f + d.length) pre.length (some a) acc = Lib.spansFromP sep ⟨(pre ++ d ++ post).toArray⟩ f (pre.length + d.length) (some a) acc
  | [], pre, post, _, f, a, acc => by simp
  | b :: d, pre, post, hd, f, a, acc => by
    obtain ⟨h1, h2⟩ := dig_sep (hd b (by simp))
    have hat : (pre ++ b :: d ++ post)[pre.length]? = some b := by simp
    have ih := go_in d (pre ++ [b]) post (fun x hx => hd x (by simp [hx])) f a acc
    have e : pre ++ [b] ++ d ++ post = pre ++ b :: d ++ post := by simp
    rw [e] at ih
    rw [show f + (b :: d).length = f + d.length + 1 by simp; omega, step_in hat h1 h2]
    rw [show pre.length + 1 = (pre ++ [b]).length by simp, ih]
    congr 1
    simp; omega
theorem run_open (d pre post : List UInt8) (hd : digs d) (hne : d ≠ []) (f : Nat) (acc : List (Nat × Nat)) :
    Lib.spansFromP sep ⟨(pre ++ d ++ post).toArray⟩ (f + d.length) pre.length none acc = Lib.spansFromP sep ⟨(pre ++ d ++ post).toArray⟩ f (pre.length + d.length) (some pre.length) acc := by
  cases d with
  | nil => exact (hne rfl).elim
  | cons b d =>
    obtain ⟨h1, h2⟩ := dig_sep (hd b (by simp))
    have hat : (pre ++ b :: d ++ post)[pre.length]? = some b := by simp
    have ih := go_in d (pre ++ [b]) post (fun x hx => hd x (by simp [hx])) f pre.length acc
    have e : pre ++ [b] ++ d ++ post = pre ++ b :: d ++ post := by simp
    rw [e] at ih
    rw [show f + (b :: d).length = f + d.length + 1 by simp; omega, step_open hat h1 h2]
    rw [show pre.length + 1 = (pre ++ [b]).length by simp, ih]
    congr 1
    simp; omega
/-- A field and the byte behind it. -/
theorem run_field (d pre post : List UInt8) (c : UInt8) (hd : digs d) (hne : d ≠ []) (hc : c.toNat < 128 ∧ sep c.toNat = true) (f : Nat) (acc : List (Nat × Nat)) :
    Lib.spansFromP sep ⟨(pre ++ d ++ c :: post).toArray⟩ (f + 1 + d.length) pre.length none acc = Lib.spansFromP sep ⟨(pre ++ d ++ c :: post).toArray⟩ f (pre.length + d.length + 1) none (acc ++ [(pre.length, pre.length + d.length)]) := by
  have hat : (pre ++ d ++ c :: post)[pre.length + d.length]? = some c := by
    rw [List.getElem?_append_right (by simp)]
    simp
  rw [run_open d pre (c :: post) hd hne, step_sep hat hc.1 hc.2]
theorem piece (l : List UInt8) (a b : Nat) : ((⟨l.toArray⟩ : ByteArray).extract a b).data.toList = (l.take b).drop a := by
  simp [ByteArray.data_extract, List.drop_take]
theorem flds_four (A B C D : List UInt8) (hA : digs A) (hB : digs B) (hC : digs C) (hD : digs D) (nA : A ≠ []) (nB : B ≠ []) (nC : C ≠ []) (nD : D ≠ []) :
    flds (A ++ [62] ++ B ++ [32] ++ C ++ [32] ++ D) = [A, B, C, D] := by
  have s62 : (62 : UInt8).toNat < 128 ∧ sep (62 : UInt8).toNat = true := by decide
  have s32 : (32 : UInt8).toNat < 128 ∧ sep (32 : UInt8).toNat = true := by decide
  obtain ⟨l, hl⟩ : ∃ l, l = A ++ [62] ++ B ++ [32] ++ C ++ [32] ++ D := ⟨_, rfl⟩
  have hsz : (⟨l.toArray⟩ : ByteArray).size = l.length := by simp [ByteArray.size]
  have hlen : l.length = (0 + D.length + (0 + 1 + C.length) + (1 + B.length) + (1 + A.length)) := by rw [hl]; simp; omega
  have e1 : l = [] ++ A ++ 62 :: (B ++ [32] ++ C ++ [32] ++ D) := by rw [hl]; simp
  have e2 : l = (A ++ [62]) ++ B ++ 32 :: (C ++ [32] ++ D) := by rw [hl]; simp
  have e3 : l = (A ++ [62] ++ B ++ [32]) ++ C ++ 32 :: D := by rw [hl]; simp
  have e4 : l = (A ++ [62] ++ B ++ [32] ++ C ++ [32]) ++ D ++ [] := by rw [hl]; simp
  have r1 := fun f acc => run_field A [] (B ++ [32] ++ C ++ [32] ++ D) 62 hA nA s62 f acc
  have r2 := fun f acc => run_field B (A ++ [62]) (C ++ [32] ++ D) 32 hB nB s32 f acc
  have r3 := fun f acc => run_field C (A ++ [62] ++ B ++ [32]) D 32 hC nC s32 f acc
  have r4 := fun f acc => run_open D (A ++ [62] ++ B ++ [32] ++ C ++ [32]) [] hD nD f acc
  rw [← e1] at r1
  rw [← e2] at r2
  rw [← e3] at r3
  rw [← e4] at r4
  have hspan : Lib.spansOfP sep ⟨l.toArray⟩ = [(0, A.length), (A.length + 1, A.length + 1 + B.length), (A.length + 1 + B.length + 1, A.length + 1 + B.length + 1 + C.length), (A.length + 1 + B.length + 1 + C.length + 1, l.length)] := by
    unfold Lib.spansOfP
    rw [hsz]
    have q1 := r1 (0 + D.length + 1 + C.length + 1 + B.length) []
    have q2 := r2 (0 + D.length + 1 + C.length) [(0, A.length)]
    have q3 := r3 (0 + D.length) [(0, A.length), (A.length + 1, A.length + 1 + B.length)]
    have q4 := r4 0 [(0, A.length), (A.length + 1, A.length + 1 + B.length), (A.length + 1 + B.length + 1, A.length + 1 + B.length + 1 + C.length)]
    simp only [List.length_append, List.length_cons, List.length_nil, Nat.zero_add, List.nil_append, List.cons_append] at q1 q2 q3 q4
    rw [show l.length = D.length + 1 + C.length + 1 + B.length + 1 + A.length by rw [hl]; simp; omega]
    rw [q1, q2, q3, q4]
    rw [Lib.spansFromP]
    unfold Lib.closeSpans
    rw [hsz]
    simp only [List.cons_append, List.nil_append]
    rw [show l.length = D.length + 1 + C.length + 1 + B.length + 1 + A.length by rw [hl]; simp; omega]
  have hgo : flds l = (Lib.spansOfP sep ⟨l.toArray⟩).map fun x => (l.take x.2).drop x.1 := by
    unfold flds Lib.goFieldsP
    rw [List.map_map]
    refine List.map_congr_left fun x _ => ?_
    exact piece l x.1 x.2
  have cut : ∀ (p d q : List UInt8) (a b : Nat), a = p.length → b = p.length + d.length → ((p ++ d ++ q).take b).drop a = d := fun p d q a b h1 h2 => by
    subst h1 h2
    rw [List.take_append_of_le_length (by simp), List.take_of_length_le (by simp)]
    simp
  rw [← hl, hgo, hspan]
  simp only [List.map_cons, List.map_nil]
  congr 1
  · rw [e1]; exact cut [] A _ _ _ rfl (by simp)
  congr 1
  · rw [e2]; exact cut (A ++ [62]) B _ _ _ (by simp) (by simp)
  congr 1
  · rw [e3]; exact cut (A ++ [62] ++ B ++ [32]) C _ _ _ (by simp; omega) (by simp; omega)
  congr 1
  · conv => lhs; rw [e4]
    exact cut (A ++ [62] ++ B ++ [32] ++ C ++ [32]) D _ _ _ (by simp; omega) (by simp; omega)
/-! ### Numerals of one byte -/
def small : Bool := (List.range 256).all fun n =>
  ((Lib.itoa (n : Int)).all fun b => decide (48 ≤ b.toNat) && decide (b.toNat ≤ 57)) && !(Lib.itoa (n : Int)).isEmpty && decide (atv (Lib.itoa (n : Int)) = n) && decide ((Lib.itoa (n : Int)).length ≤ 3)
theorem small_ok : small = true := by decide +kernel
theorem itoa_small {n : Int} (h : 0 ≤ n ∧ n ≤ 255) : digs (Lib.itoa n) ∧ Lib.itoa n ≠ [] ∧ atv (Lib.itoa n) = n ∧ (Lib.itoa n).length ≤ 3 := by
  obtain ⟨m, rfl⟩ := Int.eq_ofNat_of_zero_le h.1
  have := List.all_eq_true.1 small_ok m (List.mem_range.2 (by omega))
  simp only [Bool.and_eq_true, List.all_eq_true, decide_eq_true_eq, Bool.not_eq_true', List.isEmpty_eq_false_iff] at this
  exact ⟨this.1.1.1, this.1.1.2, this.1.2, this.2⟩
theorem ok_small {p : Ac.P4} (h : okP p) : (0 ≤ p.a ∧ p.a ≤ 255) ∧ (0 ≤ p.b ∧ p.b ≤ 255) ∧ (0 ≤ p.c ∧ p.c ≤ 255) ∧ 0 ≤ p.d ∧ p.d ≤ 255 := by
  obtain ⟨h0, h1, h2, h3⟩ := h
  omega
theorem pP_text {p : Ac.P4} (h : okP p) : pP (text p) = p := by
  obtain ⟨h0, h1, h2, h3⟩ := ok_small h
  obtain ⟨a1, a2, a3, _⟩ := itoa_small h0
  obtain ⟨b1, b2, b3, _⟩ := itoa_small h1
  obtain ⟨c1, c2, c3, _⟩ := itoa_small h2
  obtain ⟨d1, d2, d3, _⟩ := itoa_small h3
  have e := flds_four _ _ _ _ a1 b1 c1 d1 a2 b2 c2 d2
  have et : text p = Lib.itoa p.a ++ [62] ++ Lib.itoa p.b ++ [32] ++ Lib.itoa p.c ++ [32] ++ Lib.itoa p.d := rfl
  rw [← et] at e
  unfold pP fld
  rw [e]
  simp only [List.getElem?_cons_zero, List.getElem?_cons_succ, Option.elim_some, a3, b3, c3, d3]
theorem parse_text {p : Ac.P4} (h : okP p) : parse (text p) = some p := by
  unfold parse
  rw [pP_text h, if_pos ⟨h, rfl⟩]
/-! ### The document's numbers -/
def val10 (d : List UInt8) : Nat := d.foldl (fun n b => 10 * n + b.toNat - 48) 0
theorem go_digs : ∀ (d pre post : List UInt8), digs d → (∀ c, post.head? = some c → ¬ (48 ≤ c.toNat ∧ c.toNat ≤ 57)) → ∀ (k n : Nat), d.length ≤ k →
    numGo (pre ++ d ++ post) k pre.length n = (d.foldl (fun n b => 10 * n + b.toNat - 48) n, pre.length + d.length)
  | [], pre, post, _, hp, k, n, _ => by
    cases k with
    | zero => simp [numGo]
    | succ k =>
      unfold numGo
      cases post with
      | nil => simp
      | cons c post =>
        have := hp c rfl
        simp [this]
  | b :: d, pre, post, hd, hp, k, n, hk => by
    cases k with
    | zero => simp at hk
    | succ k =>
      have hat : (pre ++ b :: d ++ post)[pre.length]? = some b := by simp
      unfold numGo
      rw [hat]
      dsimp only
      rw [if_pos (hd b (by simp))]
      have ih := go_digs d (pre ++ [b]) post (fun x hx => hd x (by simp [hx])) hp k (10 * n + b.toNat - 48) (by simpa using hk)
      have e : pre ++ [b] ++ d ++ post = pre ++ b :: d ++ post := by simp
      rw [e] at ih
      rw [show pre.length + 1 = (pre ++ [b]).length by simp, ih]
      simp only [List.foldl_cons, List.length_append, List.length_cons, List.length_nil]
      congr 1
      omega
def small2 : Bool := (List.range 256).all fun n => decide (val10 (Lib.itoa (n : Int)) = n)
theorem small2_ok : small2 = true := by decide +kernel
theorem val_small {n : Int} (h : 0 ≤ n ∧ n ≤ 255) : ((val10 (Lib.itoa n) : Nat) : Int) = n := by
  obtain ⟨m, rfl⟩ := Int.eq_ofNat_of_zero_le h.1
  have := List.all_eq_true.1 small2_ok m (List.mem_range.2 (by omega))
  simp only [decide_eq_true_eq] at this
  rw [this]
theorem qP_text {p : Ac.P4} (h : okP p) : qP (text p) = p := by
  obtain ⟨h0, h1, h2, h3⟩ := ok_small h
  obtain ⟨a1, _, _, a3⟩ := itoa_small h0
  obtain ⟨b1, _, _, b3⟩ := itoa_small h1
  obtain ⟨c1, _, _, c3⟩ := itoa_small h2
  obtain ⟨d1, _, _, d3⟩ := itoa_small h3
  have va := val_small h0
  have vb := val_small h1
  have vc := val_small h2
  have vd := val_small h3
  have et : text p = Lib.itoa p.a ++ [62] ++ Lib.itoa p.b ++ [32] ++ Lib.itoa p.c ++ [32] ++ Lib.itoa p.d := rfl
  obtain ⟨pa, pb, pc, pd⟩ := p
  dsimp only at *
  generalize text ⟨pa, pb, pc, pd⟩ = s at *
  generalize Lib.itoa pa = A at *
  generalize Lib.itoa pb = B at *
  generalize Lib.itoa pc = C at *
  generalize Lib.itoa pd = D at *
  have hn : ∀ c : UInt8, c = 62 ∨ c = 32 → ¬ (48 ≤ c.toNat ∧ c.toNat ≤ 57) := fun c hc => by rcases hc with rfl | rfl <;> decide
  have r1 : q1 s = (val10 A, A.length) := by
    have := go_digs A [] (62 :: (B ++ [32] ++ C ++ [32] ++ D)) a1 (fun c hc => hn c (.inl (by simpa using hc.symm))) 3 0 a3
    rw [show [] ++ A ++ 62 :: (B ++ [32] ++ C ++ [32] ++ D) = s by rw [et]; simp] at this
    have t : numGo s 3 0 0 = (A.foldl (fun n b => 10 * n + b.toNat - 48) 0, A.length) := by simpa using this
    exact t
  have r2 : q2 s = (val10 B, A.length + 1 + B.length) := by
    have := go_digs B (A ++ [62]) (32 :: (C ++ [32] ++ D)) b1 (fun c hc => hn c (.inr (by simpa using hc.symm))) 3 0 b3
    rw [show A ++ [62] ++ B ++ 32 :: (C ++ [32] ++ D) = s by rw [et]; simp] at this
    unfold q2 number
    rw [r1]
    have t : numGo s 3 (A.length + 1) 0 = (B.foldl (fun n b => 10 * n + b.toNat - 48) 0, A.length + 1 + B.length) := by simpa using this
    exact t
  have r3 : q3 s = (val10 C, A.length + 1 + B.length + 1 + C.length) := by
    have := go_digs C (A ++ [62] ++ B ++ [32]) (32 :: D) c1 (fun c hc => hn c (.inr (by simpa using hc.symm))) 3 0 c3
    rw [show A ++ [62] ++ B ++ [32] ++ C ++ 32 :: D = s by rw [et]; simp] at this
    unfold q3 number
    rw [r2]
    simp only [List.length_append, List.length_cons, List.length_nil, Nat.zero_add] at this
    exact this
  have r4 : q4 s = (val10 D, A.length + 1 + B.length + 1 + C.length + 1 + D.length) := by
    have := go_digs D (A ++ [62] ++ B ++ [32] ++ C ++ [32]) [] d1 (fun c hc => by cases hc) 3 0 d3
    rw [show A ++ [62] ++ B ++ [32] ++ C ++ [32] ++ D ++ [] = s by rw [et]; simp] at this
    unfold q4 number
    rw [r3]
    simp only [List.length_append, List.length_cons, List.length_nil, Nat.zero_add] at this
    exact this
  unfold qP
  rw [r1, r2, r3, r4, va, vb, vc, vd]
theorem qParse_text {p : Ac.P4} (h : okP p) : qParse (text p) = some p := by
  unfold qParse
  rw [qP_text h, if_pos ⟨h, rfl⟩]
theorem parse_is {s : List UInt8} {p : Ac.P4} (h : parse s = some p) : okP p ∧ text p = s := by
  unfold parse at h
  split at h
  · rename_i h1
    injection h with h
    rw [← h]; exact h1
  · cases h
theorem qParse_is {s : List UInt8} {p : Ac.P4} (h : qParse s = some p) : okP p ∧ text p = s := by
  unfold qParse at h
  split at h
  · rename_i h1
    injection h with h
    rw [← h]; exact h1
  · cases h
theorem parse_eq (s : List UInt8) : parse s = qParse s := by
  cases h : parse s with
  | some p =>
    obtain ⟨h1, h2⟩ := parse_is h
    rw [← h2, qParse_text h1]
  | none =>
    cases h' : qParse s with
    | none => rfl
    | some p =>
      obtain ⟨h1, h2⟩ := qParse_is h'
      rw [← h2, parse_text h1] at h
      cases h
end Pk
end Go.Proofs.YtokbckflleaplaaDoor
