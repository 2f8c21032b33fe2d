/-
  Policies: their text. Plain; A range over a function.
-/
import Derived.Test.YtngodakgbldlpaaGreatDoorTJ3
import Derived.Test.YtngodakgbldlpaaGreatDoorTJ7
import Derived.Test.YtngodakgbldlpaaGreatDoorTSxC
import Derived.RangeFuncNested
import Derived.RangeFuncLeaves
import Derived.TacticsIn
import Derived.RangeFuncRecord
namespace Go.Proofs.YtngodakgbldlpaaGreatDoor
open Go.Sx
set_option maxRecDepth 20000
set_option linter.unusedVariables false
namespace Po
def sepOf (k : Int) : List UInt8 := if k = 3 then [59, 32] else if k = 4 then [32, 124, 32] else [32, 101, 108, 115, 101, 32]
def innerT (k : Int) (s : List UInt8) : List UInt8 := if k = 1 ∨ k = 2 then s else 40 :: (s ++ [41])
def filterT (p : Pd.T) : List UInt8 := if p.k = 1 then [105, 100] else if p.k = 2 then [100, 114, 111, 112] else [119, 104, 101, 110, 32] ++ Pd.text p
def headT (p : Pd.T) : List UInt8 := [105, 102, 32] ++ (Pd.text p ++ [32, 116, 104, 101, 110, 32])
mutual
def text : T → List UInt8
  | .mk k p f v l => if k = 1 then filterT p else if k = 2 then Pd.word f ++ ([32, 58, 61, 32] ++ Lib.itoa v) else (if k = 5 then headT p else []) ++ Lib.join (parts l) (sepOf k)
def parts : List T → List (List UInt8)
  | [] => []
  | p :: l => innerT p.k (text p) :: parts l
end
theorem parts_map (l : List T) : parts l = l.map fun p => innerT p.k (text p) := by
  induction l with
  | nil => rfl
  | cons p l ih => rw [parts, ih]; rfl
theorem parts_take {l : List T} {i : Nat} (h : i < l.length) : parts (l.take (i + 1)) = parts (l.take i) ++ [innerT l[i].k (text l[i])] := by
  rw [parts_map, parts_map, List.take_add_one, List.getElem?_eq_getElem h, List.map_append]
  rfl
theorem parts_len (l : List T) : (parts l).length = l.length := by rw [parts_map, List.length_map]
theorem innerT_len (k : Int) (s : List UInt8) : (innerT k s).length ≤ s.length + 2 := by
  unfold innerT
  split
  · omega
  · simp
theorem filterT_len (p : Pd.T) (h : Pd.fits p = true) : (filterT p).length + 2 ≤ 40 * Pd.size p := by
  have := Pd.text_len p h
  have := Pd.size_pos p
  unfold filterT
  split
  · simp; omega
  · split
    · simp; omega
    · simp only [List.length_append, List.length_cons, List.length_nil]; omega
theorem headT_len (p : Pd.T) (h : Pd.fits p = true) : (headT p).length ≤ 40 * Pd.size p + 2 := by
  have := Pd.text_len p h
  unfold headT
  simp only [List.length_append, List.length_cons, List.length_nil]; omega
theorem sep_len (k : Int) : (sepOf k).length ≤ 6 := by
  unfold sepOf
  repeat' split
  all_goals decide
mutual
theorem text_len : ∀ x : T, fits x = true → (text x).length + 8 ≤ 40 * tot x
  | .mk k p f v l, h => by
    obtain ⟨hsh, hfl⟩ := fits_iff.1 h
    have hp := parts_sum l hfl
    have hj := Pd.join_le (sepOf k) (parts l)
    have h6 : ((parts l).map fun x => (sepOf k).length + x.length).sum ≤ ((parts l).map fun x => 6 + x.length).sum := Pd.sum_le _ (sep_len k)
    have hw := Pd.word_len f
    have hz := Pd.size_pos p
    rw [tot, text]
    rcases hsh with ⟨rfl, hr, _, hl⟩ | ⟨rfl, _, hf, hv, hl⟩ | ⟨hk, _, _, hl1, hl2⟩ | ⟨rfl, hr, _, hl⟩
    · have := filterT_len p (right_fits hr)
      rw [if_pos rfl]
      omega
    · have ht := Pd.top_lt f
      have := Lib.itoa_length_le v (by omega) (by omega)
      rw [if_neg (by decide), if_pos rfl]
      simp only [List.length_append, List.length_cons, List.length_nil]
      omega
    · rw [if_neg (by omega), if_neg (by omega), if_neg (by omega), List.nil_append]
      omega
    · have := headT_len p (right_fits hr)
      rw [if_neg (by decide), if_neg (by decide), if_pos rfl, List.length_append]
      omega
theorem parts_sum : ∀ l : List T, (∀ y ∈ l, fits y = true) → ((parts l).map fun x => 6 + x.length).sum ≤ 40 * totL l
  | [], _ => by simp [parts]
  | p :: l, h => by
    have h1 := text_len p (h p (by simp))
    have h2 := parts_sum l fun y hy => h y (by simp [hy])
    have h3 := innerT_len p.k (text p)
    rw [parts, totL, List.map_cons, List.sum_cons]
    omega
end
end Po
end Go.Proofs.YtngodakgbldlpaaGreatDoor
namespace Go.Sx
open Go.RowKit
/-! ### A range over a function -/
section
variable {P : Program}

theorem opM_not_defer {sl : List AV} {m : List Blk} {op : Op} {K : AV → List Blk → Prop} (h : opM P sl m op K) : ∀ c, op ≠ .defer c := by
  rintro c rfl
  simp only [opM, opV] at h

theorem operIn_of_wp {lp n : Nat} {o : Oper} {a : Act} {w : World} {next : Act → World → Prop} {Q : Exit → Act → World → Prop} (hd : ∀ c, o.op ≠ .defer c) (h : o.wp P a w next Q) : o.wpIn (Fence.wide.inRound lp) n P a w next Q := by
  refine ⟨fun _ _ => trivial, ?_⟩
  rw [Oper.semAt_eq _ _ _ hd]
  unfold Oper.wp at h
  generalize (execOp a.eval o).run P w = r at *
  cases r with
  | ok x w' =>
    cases x with
    | value v => exact h
    | skip => exact h
    | defer d => exact h
    | enter f args => exact ⟨fun h => by simp [Fence.wide] at h, CallsIn.inRound lp (callsIn_wide.2 h)⟩
    | row r args => exact ⟨fun h => by simp [Fence.wide] at h, fun c cs _ => let ⟨v, w', r, s⟩ := h c cs; ⟨v, w', r, stepsIn_wide.2 s⟩⟩
    | _ => exact h.elim
  | halt hl w' =>
    cases hl with
    | panic v => exact h
    | _ => exact h.elim

theorem opsK_in {lp n : Nat} {w0 : World} {S : Own} {ops : Array Oper} {l : List Oper} {sl : List AV} {m : List Blk} {k : List AV → List Blk → Prop} (h : opsK P ops l sl m k) {a : Act} {w : World} (hsim : Sim w0 S sl m a w)
    {Q : Exit → Act → World → Prop} (hk : ∀ sl m a w, k sl m → Sim w0 S sl m a w → Q .normal a w) : wpListIn (Fence.wide.inRound lp) n P ops Q l a w := by
  induction l generalizing sl m a w with
  | nil => exact hk _ _ _ _ h hsim
  | cons o rest ih =>
    simp only [opsK] at h
    have run : (opM P sl m o.op fun v m' => dstK sl o.dst v fun sl' => opsK P ops rest sl' m' k) → o.wpIn (Fence.wide.inRound lp) n P a w (wpListIn (Fence.wide.inRound lp) n P ops Q rest) Q := fun h =>
      operIn_of_wp (opM_not_defer h) <| opM_spec hsim.slots hsim.mem hsim.fr hsim.fresh h fun v m' w' hl => by
        obtain ⟨sl', h1, h2⟩ := dstK_spec hl.k hsim.slots
        exact ih h1 (hsim.step h2 hl.mem hl.fr hl.fresh)
    unfold wpListIn
    split at h
    · rename_i hg
      rw [if_pos (by simp [Region.wanted, hg])]
      exact run h
    · rename_i j want hg
      rcases guardK_spec h hsim.slots hg with ⟨h1, h2⟩ | ⟨h1, h2⟩
      · rw [if_pos h1]
        exact run h2
      · rw [if_neg (by simp [h1])]
        obtain ⟨sl', h3, h4⟩ := dstK_spec h2 hsim.slots
        exact ⟨fun _ _ => trivial, ih h3 (hsim.step h4 hsim.mem hsim.fr hsim.fresh)⟩

/-- A round's code: no loop, nothing that draws its order. -/
def flat : Code → Bool
  | .skip => true
  | .region _ _ draw => !draw
  | .seq a b => flat a && flat b
  | .cond _ a b => flat a && flat b
  | .block _ c => flat c
  | .exit _ => true
  | .ret => true
  | .label _ => true
  | _ => false

theorem codeK_in {lp n : Nat} {w0 : World} {S : Own} {c : Code} : ∀ {sl : List AV} {m : List Blk} {Q : Post}, flat c = true → codeK P c sl m Q → ∀ {a : Act} {w : World}, Sim w0 S sl m a w →
    c.wpIn (Fence.wide.inRound lp) n P (fun e a w => ∃ sl m, Q e sl m ∧ Sim w0 S sl m a w) a w := by
  induction c with
  | skip => intro sl m Q _ h a w hs; exact wpIn_skip ⟨_, _, h, hs⟩
  | region id ops draw =>
    intro sl m Q hf h a w hs
    cases draw with
    | false => exact wpIn_region_list (opsK_in h hs fun sl m a w h1 h2 => ⟨sl, m, h1, h2⟩)
    | true => cases hf
  | seq x y ihx ihy =>
    intro sl m Q hf h a w hs
    simp only [flat, Bool.and_eq_true] at hf
    refine wpIn_seq (wpIn_mono (ihx hf.1 h hs) fun e a w hq => ?_)
    obtain ⟨sl', m', h1, h2⟩ := hq
    cases e with
    | normal => exact ihy hf.2 h1 h2
    | _ => exact ⟨sl', m', h1, h2⟩
  | cond c x y ihx ihy =>
    intro sl m Q hf h a w hs
    simp only [flat, Bool.and_eq_true] at hf
    obtain ⟨v, h1, h2⟩ := evK_spec hs.slots h
    cases v <;> try exact h1.elim
    rename_i t
    simp only [NIf_iff] at h1
    refine wpIn_cond_split (t := t) (by rw [h2]; rfl) (fun ht => ihx hf.1 (h1.1 ht) hs) (fun ht => ihy hf.2 (h1.2 ht) hs)
  | block id c ih =>
    intro sl m Q hf h a w hs
    refine wpIn_block (wpIn_mono (ih hf h hs) fun e a w hq => ?_)
    obtain ⟨sl', m', h1, h2⟩ := hq
    cases e with
    | exit j =>
      simp only [Exit.inBlock]
      split at h1
      · rename_i hj; injection hj with hj; subst hj
        split at h1
        · rename_i heq _; rw [if_pos heq]; exact ⟨sl', m', h1, h2⟩
        · rename_i heq _; rw [if_neg heq]; exact ⟨sl', m', h1, h2⟩
      · rename_i hne; exact (hne _ rfl).elim
    | _ => exact ⟨sl', m', h1, h2⟩
  | exit id => intro sl m Q _ h a w hs; exact wpIn_exit ⟨_, _, h, hs⟩
  | label l => intro sl m Q _ h a w hs; exact wpIn_label ⟨_, _, h, hs⟩
  | ret => intro sl m Q _ h a w hs; exact wpIn_ret ⟨_, _, h, hs⟩
  | _ => intro sl m Q hf; cases hf

/-- What an iterator may read between two rounds: all blocks but those that may be written. -/
def Still (m : List Blk) (w : World) : World → World → Prop := fun A B => A.heap.size ≤ B.heap.size ∧ (∀ b, b < w.heap.size → ¬ wrs m b → B.heap[b]? = A.heap[b]?) ∧ ∀ (r : Nat) (o : Obj), w.heap.size ≤ r → A.heap[r]? = some o → o.isWalk = true → B.heap[r]? = some o

/-- Blocks of cells, or of what was there before. -/
def plainB (m : List Blk) (k : Blk) : Prop :=
  match k.kind with
  | .var _ => True
  | .row .. => True
  | .obj _ => False
  | .res _ => False
  | _ => k ∈ m

theorem foot_cells {m m1 : List Blk} {w W : World} (hm : MemOk m w) (h1 : MemOk m1 W) (hp : ∀ k ∈ m1, plainB m k) {k : Blk} (hk : k ∈ m1) {b : Nat} (hb : k.foot b) : b < w.heap.size ∨ ∃ o : Obj, W.heap[b]? = some o ∧ o.isCells = true := by
  have h2 := h1.holds k hk
  have h3 := hp k hk
  obtain ⟨a, cs, kind⟩ := k
  cases kind with
  | var t =>
    right
    simp only [Blk.foot, Blk.bn, Option.some.injEq] at hb
    subst hb
    exact ⟨_, h2.2.2, rfl⟩
  | row v t sz n =>
    right
    simp only [Blk.foot, Blk.bn] at hb
    rcases h2.1.2 with ⟨rfl, _⟩ | ⟨g, cap, cur, rfl, _, hg, _⟩
    · simp [Value.ownBlock] at hb
    · simp only [Value.ownBlock, Option.some.injEq] at hb
      subst hb
      exact ⟨_, hg, rfl⟩
  | ro v sz n => exact .inl ((hm.holds _ h3).lt hb)
  | heap F => exact .inl ((hm.holds _ h3).lt hb)
  | obj o => exact h3.elim
  | res R => exact h3.elim

theorem wr_cells {m : List Blk} {W : World} (h1 : MemOk m W) (hno : ∀ k ∈ m, (∀ o, k.kind ≠ .obj o) ∧ ∀ R, k.kind ≠ .res R) {b : Nat} (hb : wrs m b) : ∃ o : Obj, W.heap[b]? = some o ∧ o.isCells = true := by
  obtain ⟨k, hk, hw, hbn⟩ := hb
  have h2 := h1.holds k hk
  obtain ⟨a, cs, kind⟩ := k
  cases kind with
  | var t =>
    simp only [Blk.foot, Blk.bn, Option.some.injEq] at hbn
    subst hbn
    exact ⟨_, h2.2.2, rfl⟩
  | row v t sz n =>
    simp only [Blk.foot, Blk.bn] at hbn
    rcases h2.1.2 with ⟨rfl, _⟩ | ⟨g, cap, cur, rfl, _, hg, _⟩
    · simp [Value.ownBlock] at hbn
    · simp only [Value.ownBlock, Option.some.injEq] at hbn
      subst hbn
      exact ⟨_, hg, rfl⟩
  | ro v sz n => cases hw
  | heap F => cases hw
  | obj o => exact ((hno _ hk).1 o rfl).elim
  | res R => exact ((hno _ hk).2 R rfl).elim

/-- What is between two rounds. -/
def between (m : List Blk) (w : World) (mm : List Blk → Prop) (W : World) : Prop := ∃ m1, mm m1 ∧ (∀ k ∈ m1, plainB m k) ∧ MemOk m1 W ∧ Fr (wrs m) w W ∧ Fresh (own m) w m1

theorem between_own {β : Type} {m : List Blk} {w : World} (hm : MemOk m w) (mm : β → List Blk → Prop) : OwnFrom w.heap.size fun x W => between m w (mm x) W := by
  rintro s W W' row ⟨m1, h1, h2, h3, h4, h5⟩ hg hr
  refine ⟨m1, h1, h2, h3.keep hg.size fun k hk b hb => hg.block b ((h3.holds k hk).lt hb) fun e => ?_, ⟨hg.os.trans h4.os, hg.tape.trans h4.tape, hg.output.trans h4.output, Nat.le_trans h4.size hg.size, fun k hk hs => ?_⟩, h5⟩
  · obtain ⟨h6, o, h7, h8⟩ := hr b e.symm
    rcases foot_cells hm h3 h2 hk hb with h | ⟨o', h9, h10⟩
    · omega
    · rw [h7] at h9; injection h9 with h9; subst h9; rw [h8] at h10; cases h10
  · refine (hg.block k (Nat.lt_of_lt_of_le hk h4.size) fun e => ?_).trans (h4.block k hk hs)
    obtain ⟨h6, _⟩ := hr k e.symm
    omega

/-- Still what it was, and one block more. -/
theorem MemOk.and_one {m : List Blk} {W : World} (h : MemOk m W) {b : Nat} {cs : List AV} {t : TypeId} (hb : W.heap[b]? = some (.cells (denL cs).toArray t (0, 0))) (hf : ¬ foots m b) : MemOk (m ++ [⟨⟨b, 0, none⟩, cs, .var t⟩]) W := by
  refine ⟨fun k hk => ?_, List.pairwise_append.2 ⟨h.sep, by simp, fun x hx y hy => ?_⟩⟩
  · rcases List.mem_append.1 hk with hk | hk
    · exact h.holds k hk
    · rw [List.mem_singleton] at hk
      subst hk
      exact ⟨rfl, rfl, hb⟩
  · rw [List.mem_singleton] at hy
    subst hy
    intro _ b' h1 h2
    simp only [Blk.foot, Blk.bn, Option.some.injEq] at h2
    subst h2
    exact hf ⟨x, hx, h1⟩

/-- From one time between rounds on, some code of a round walked. -/
theorem round_part {lp n : Nat} {m m1 : List Blk} {w W : World} {c : Code} (hf : flat c = true) {sl : List AV} {a : Act} (hs : SlotsOk sl a.tmps) (hd : a.defers = []) (hsz : w.heap.size ≤ W.heap.size) (h3 : MemOk m1 W) (hno : ∀ k ∈ m1, (∀ o, k.kind ≠ .obj o) ∧ ∀ R, k.kind ≠ .res R) (h4 : Fr (wrs m) w W) (h5 : Fresh (own m) w m1) {Q : Post} (h : codeK P c sl m1 Q)
    {R : Exit → Act → World → Prop} (hR : ∀ e a' sl' m2 W', Q e sl' m2 → Fresh (own m1) W m2 → SlotsOk sl' a'.tmps → a'.defers = [] → MemOk m2 W' → KeepsFrom w.heap.size W W' → Still m w W W' → Fr (wrs m) w W' → Fresh (own m) w m2 → W.heap.size ≤ W'.heap.size → R e a' W') :
    c.wpIn (Fence.wide.inRound lp) n P R a W := by
  refine wpIn_mono (codeK_in (w0 := W) (S := own m1) hf h ⟨hs, hd, h3, Fr.refl _ W, fun b hb => .inl hb, fun b hb => .inl hb⟩) fun e a' W' hq => ?_
  obtain ⟨sl', m2, h6, h8⟩ := hq
  have hwr : ∀ b, wrs m1 b → wrs m b ∨ w.heap.size ≤ b := h5.1
  have hkf : KeepsFrom w.heap.size W W' := ⟨h8.fr.size, fun k o _ hk hc => by
    refine (h8.fr.block k (Array.getElem?_eq_some_iff.1 hk).1 fun hw => ?_).trans hk
    obtain ⟨o', h9, h10⟩ := wr_cells h3 hno hw
    rw [hk] at h9; injection h9 with h9; subst h9; rw [hc] at h10; cases h10⟩
  refine hR e a' sl' m2 W' h6 h8.fresh h8.slots h8.defers h8.mem hkf ⟨h8.fr.size, fun b hb hn => ?_, fun r o hr hro ho => hkf.same r o hr hro (by cases o <;> first | rfl | cases ho)⟩ ?_ ?_ h8.fr.size
  · exact h8.fr.block b (Nat.lt_of_lt_of_le hb hsz) fun hw => (hwr b hw).elim hn fun h => by omega
  · exact ⟨h8.fr.os.trans h4.os, h8.fr.tape.trans h4.tape, h8.fr.output.trans h4.output, Nat.le_trans hsz h8.fr.size, fun k hk hs => (h8.fr.block k (Nat.lt_of_lt_of_le hk hsz) fun hw => (hwr k hw).elim hs fun h => by omega).trans (h4.block k hk hs)⟩
  · refine ⟨fun b hb => ?_, fun b hb => ?_⟩
    · rcases h8.fresh.1 b hb with h | h
      · exact hwr b h
      · exact .inr (Nat.le_trans hsz h)
    · rcases h8.fresh.2 b hb with h | h
      · exact h5.2 b h
      · exact .inr (Nat.le_trans hsz h)

/-- An iterator that gives some list of those that S tells. -/
def GivesS (P : Program) (gf : Nat) (lb : List AV) (m : List Blk) {α : Type} (encs : α → List AV) (S : List α → Prop) (N : Nat) : Prop :=
  ∀ w, MemOk m w → SeqStopsK Fence.wide 0 P gf (denL lb).toArray (fun x => (denL (encs x)).toArray) (Still m w) S (fun _ => True) N w
/-- What is read alone is so still. -/
theorem MemOk.still {m1 : List Blk} {F : Heap} {w A B : World} (hm : MemOk m1 w) (hF : hpB F ∈ m1) (h : MemOk [hpB F] A) (hs : Still m1 w A B) : MemOk [hpB F] B := by
  refine h.keep hs.1 fun k hk b hb => ?_
  rw [List.mem_singleton] at hk
  subst hk
  refine hs.2.1 b ((hm.holds _ hF).lt hb) fun ⟨k', hk', hw, hbn⟩ => ?_
  obtain ⟨i, hi⟩ := List.getElem?_of_mem hF
  obtain ⟨j, hj⟩ := List.getElem?_of_mem hk'
  have hne : i ≠ j := fun e => by
    subst e
    rw [hi] at hj
    injection hj with hj
    subst hj
    cases hw
  exact sep_at hm.sep hne hi hj (.inr hw) b hb hbn
theorem MemOk.one_of {m1 : List Blk} {F : Heap} {w : World} (hm : MemOk m1 w) (hF : hpB F ∈ m1) : MemOk [hpB F] w :=
  ⟨fun k hk => by rw [List.mem_singleton] at hk; subst hk; exact hm.holds _ hF, by simp⟩
theorem operW_of_wp {n : Nat} {o : Oper} {a : Go.Act} {w : World} {next : Go.Act → World → Prop} {Q : Exit → Go.Act → World → Prop} (h : o.wp P a w next Q) : o.wpIn Fence.wide n P a w next Q := by
  refine ⟨fun _ _ => trivial, ?_⟩
  rw [show o.semAt Fence.wide.round a.eval = execOp a.eval o from Oper.semAt_none _ _]
  unfold Oper.wp at h
  generalize (execOp a.eval o).run P w = r at *
  cases r with
  | ok x w' =>
    cases x with
    | value v => exact h
    | skip => exact h
    | defer d => exact h
    | enter f args => exact ⟨fun h => by simp [Fence.wide] at h, callsIn_wide.2 h⟩
    | row r args => exact ⟨fun h => by simp [Fence.wide] at h, fun c cs _ => let ⟨v, w', r, s⟩ := h c cs; ⟨v, w', r, stepsIn_wide.2 s⟩⟩
    | _ => exact h.elim
  | halt hl w' =>
    cases hl with
    | panic v => exact h
    | _ => exact h.elim
/-- Some operations of a statement. -/
theorem opsK_then {n : Nat} {w0 : World} {S : Own} {ops : Array Oper} {l l2 : List Oper} {sl : List AV} {m : List Blk} {k : List AV → List Blk → Prop} (h : opsK P ops l sl m k) {a : Go.Act} {w : World} (hsim : Sim w0 S sl m a w)
    {Q : Exit → Go.Act → World → Prop} (hk : ∀ sl m a w, k sl m → Sim w0 S sl m a w → wpListIn Fence.wide n P ops Q l2 a w) : wpListIn Fence.wide n P ops Q (l ++ l2) a w := by
  induction l generalizing sl m a w with
  | nil => exact hk _ _ _ _ h hsim
  | cons o rest ih =>
    simp only [opsK] at h
    have run : (opM P sl m o.op fun v m' => dstK sl o.dst v fun sl' => opsK P ops rest sl' m' k) → o.wpIn Fence.wide n P a w (wpListIn Fence.wide n P ops Q (rest ++ l2)) Q := fun h =>
      operW_of_wp <| opM_spec hsim.slots hsim.mem hsim.fr hsim.fresh h fun v m' w' hl => by
        obtain ⟨sl', h1, h2⟩ := dstK_spec hl.k hsim.slots
        exact ih h1 (hsim.step h2 hl.mem hl.fr hl.fresh)
    rw [List.cons_append]
    unfold wpListIn
    split at h
    · rename_i hg
      rw [if_pos (by simp [Region.wanted, hg])]
      exact run h
    · rename_i j want hg
      rcases guardK_spec h hsim.slots hg with ⟨h1, h2⟩ | ⟨h1, h2⟩
      · rw [if_pos h1]
        exact run h2
      · rw [if_neg (by simp [h1])]
        obtain ⟨sl', h3, h4⟩ := dstK_spec h2 hsim.slots
        exact ⟨fun _ _ => trivial, ih h3 (hsim.step h4 hsim.mem hsim.fr hsim.fresh)⟩
theorem opsK_all {n : Nat} {w0 : World} {S : Own} {ops : Array Oper} {l : List Oper} {sl : List AV} {m : List Blk} {k : List AV → List Blk → Prop} (h : opsK P ops l sl m k) {a : Go.Act} {w : World} (hsim : Sim w0 S sl m a w)
    {Q : Exit → Go.Act → World → Prop} (hk : ∀ sl m a w, k sl m → Sim w0 S sl m a w → Q .normal a w) : wpListIn Fence.wide n P ops Q l a w := by
  have := opsK_then (n := n) (l2 := []) (Q := Q) h hsim hk
  rwa [List.append_nil] at this
/-- A round is asked for. -/
theorem yield_then {n lp : Nat} {ops : Array Oper} {o : Oper} {rest : List Oper} {f : Operand} {ars : Array Operand} {tys : Array TypeId} (hop : o.op = .call { callee := .value f, args := ars, argTypes := tys }) (hg : o.guard = none) {a : Go.Act} {W : World} {vs : Array Value}
    (hf : a.eval f = .func (.yield lp) #[] #[]) (has : ars.map a.eval = vs) {Q : Exit → Go.Act → World → Prop} {R : Ending → World → Prop} (hY : YieldAt Fence.wide (n - 1) P lp vs W R)
    (hR : ∀ e w', R e w' → ∃ v, e = .returned v ∧ wpListIn Fence.wide n P ops Q rest (a.put o.dst v) w') : wpListIn Fence.wide n P ops Q (o :: rest) a W := by
  unfold wpListIn
  rw [if_pos (by simp [Region.wanted, hg])]
  refine ⟨fun _ _ => trivial, ?_⟩
  rw [show o.semAt Fence.wide.round a.eval = execOp a.eval o from Oper.semAt_none _ _]
  obtain ⟨fn, tmps, assign, body, hy, hround⟩ := hY
  have e : (execOp a.eval o).run P W = .ok (.round lp fn tmps assign body) W := by
    simp only [execOp, hop, resolve, hf, Deferred.ofValue, has, Sem.run_bind, Sem.run_pure, Result.andThen_ok, invoke]
    simpa using hy
  rw [e]
  refine ⟨fun h => by simp [Fence.wide] at h, hround.mono fun e w' hr => ?_⟩
  obtain ⟨v, rfl, h⟩ := hR e w' hr
  exact h

/-- The slots of a round. -/
def putP : List AV → List Tmp → List AV → List AV
  | sl, p :: ps, v :: vs => putP (sl.set p v) ps vs
  | sl, _, _ => sl
theorem putP_ok : ∀ {ps : List Tmp} {vs : List AV} {sl : List AV} {tmps : Array Value}, SlotsOk sl tmps → SlotsOk (putP sl ps vs) ((ps.zip (denL vs)).foldl (fun t (p, v) => t.setIfInBounds p v) tmps)
  | [], vs, sl, tmps, h => by cases vs <;> exact h
  | p :: ps, [], sl, tmps, h => h
  | p :: ps, v :: vs, sl, tmps, h => by
    simp only [putP, denL, List.zip_cons_cons, List.foldl_cons]
    exact putP_ok (h.set p v)

/-- The blocks that what is between two rounds takes, told by the world alone. -/
structure FootOf (m : List Blk) {β : Type} (mm : β → List Blk → Prop) (Foot : World → Nat → Prop) (w : World) : Prop where
  iff : ∀ x m1 W, mm x m1 → MemOk m1 W → ∀ b, w.heap.size ≤ b → (foots m1 b ↔ Foot W b)
  old : ∀ W W' row b, w.heap.size ≤ W.heap.size → W.grownBy W' row → (∀ r, row = some r → w.heap.size ≤ r) → Foot W' b → Foot W b

/-- The same, over an iterator that may choose its order. -/
theorem ncall_rangeS {f : FuncId} {fn : Func} {r0 r3 B assign body : Code} {id : Nat} {g : Operand} {ps : Array Tmp} (hf : P.funcs[f]? = some fn) (hc : fn.body = some (.seq r0 (.seq (.seq r3 (.block id (.rangeFunc g ps assign body))) B))) (hn : (fn.name == "runtime.NumGoroutine") = false)
    {args : List AV} {m : List Blk} {K : AV → List Blk → Prop} (hassign : flat assign = true) (hbody : flat body = true) {α : Type} (encs csx : α → List AV) (q : Tmp) (t : TypeId) (Sx : List α → Prop) (N : Nat) (mm : List AV → List α → List Blk → Prop) (hps : ∀ x, (encs x).length = ps.size)
    (h : argK args fn.ntmps fun sl => codeK P (.seq r0 r3) sl m fun e sl m0 => e = .normal ∧ ∃ gf lb m1, MemFits m0 m1 ∧ evK sl g (fun v => v.den = (AV.fn gf [] lb).den) ∧ (∀ (ars : Array Value) (w : World), (callFunc gf ars).run P w = .ok (.enter gf ars) w) ∧ GivesS P gf lb m1 encs Sx N ∧ mm sl [] m1 ∧ (∀ k ∈ m1, plainB m1 k) ∧
      (∀ w, MemOk m1 w → ∃ Foot, FootOf m1 (mm sl) Foot w) ∧
      (∀ pre x m2, mm sl pre m2 → codeK P assign (putP sl ps.toList (encs x)) m2 fun e sl' m' => e = .normal ∧ ∃ b, m' = m2 ++ [⟨⟨b, 0, none⟩, csx x, .var t⟩] ∧ sl' = (putP sl ps.toList (encs x)).set q (.ptr m2.length ⟨b, 0, none⟩ 0)) ∧
      (∀ pre x b m2, pre.length < N → mm sl pre m2 → codeK P body ((putP sl ps.toList (encs x)).set q (.ptr m2.length ⟨b, 0, none⟩ 0)) (m2 ++ [⟨⟨b, 0, none⟩, csx x, .var t⟩]) fun e _ m3 => e = .normal ∧ ∃ m4, MemFits m3 m4 ∧ mm sl (pre ++ [x]) m4 ∧ ∀ k ∈ m4, plainB m1 k) ∧
      ∀ xs m2, Sx xs → mm sl xs m2 → codeK P B sl m2 fun e sl' m' => match e with
        | .normal => resK P m' sl' fn.results.toList fun xs => retK xs fun r => K r m'
        | .ret => resK P m' sl' fn.results.toList fun xs => retK xs fun r => K r m'
        | _ => False) : NCall P f args m K := by
  rw [NCall_iff]
  refine ⟨enters_of hf (by rw [hc]; rfl) hn, fun w0 hm0 => ?_⟩
  obtain ⟨hlen, h⟩ := argK_spec h
  have hsim : Sim w0 (own m) (args ++ List.replicate (fn.ntmps - args.length) .any) m { tmps := (denL args).toArray ++ Array.replicate (fn.ntmps - (denL args).toArray.size) undef, defers := [] } w0 :=
    ⟨args_ok hlen, rfl, hm0, Fr.refl _ w0, fun b hb => .inl hb, fun b hb => .inl hb⟩
  refine (callsIn_wide (n := 1)).1 (callsIn_of_wp_marks hf hc trivial (wpIn_seq ?_) rfl)
  refine wpIn_mono (wpIn_wide.2 (codeK_sound (c := r0) h hsim)) fun e a w hq => ?_
  obtain ⟨sl, m0', hq, hsim⟩ := hq
  cases e <;> try (exact absurd hq.1 (by simp))
  refine wpIn_seq (wpIn_seq (wpIn_mono (wpIn_wide.2 (codeK_sound (c := r3) hq hsim)) fun e a w hq => ?_))
  obtain ⟨sl, m0', ⟨rfl, gf, lb, m1, hfits, hg, heg, hgive, hm1, hpl, hfoot, hasg, hround, hrest⟩, hs0⟩ := hq
  refine wpIn_block ?_
  obtain ⟨_, hgd, hge⟩ := evK_spec hs0.slots hg
  have hd : a.defers = [] := hs0.defers
  have hmw : MemOk m1 w := (hfits w hs0.mem).1
  have hfresh0 : Fresh (own m) w0 m1 := ⟨fun b hb => hs0.fresh.1 b ((hfits w hs0.mem).2.1 b hb), fun b hb => hs0.fresh.2 b ((hfits w hs0.mem).2.2 b hb)⟩
  have hseq := hgive w hmw
  obtain ⟨Foot, hF⟩ := hfoot w hmw
  refine wpIn_rangeFunc_ownH (F := Fence.wide) (n := 1) rfl (Nat.le_refl 1) (gf := gf) (lb := (denL lb).toArray) (by rw [hge, hgd]; rfl) trivial heg hseq
    (fun h1 h2 => ⟨Nat.le_trans h1.1 h2.1, fun b hb hn => (h2.2.1 b hb hn).trans (h1.2.1 b hb hn), fun r o hr h3 h4 => h2.2.2 r o hr (h1.2.2 r o hr h3 h4) h4⟩) (fun W l o o' hl hlo _ hw => ⟨by simp [World.putObj], fun b hb _ => World.putObj_heap_other (by omega), fun r o2 hr h3 h4 => by
      rw [World.putObj_heap_other fun e => ?_]; exact h3
      subst e; rw [hlo] at h3; injection h3 with h3; subst h3; rw [hw] at h4; cases h4⟩) (Below.refl _ w) (fun x => by simp [denL_length, hps x])
    (fun ys W => between m1 w (mm sl ys) W) (fun _ _ _ => False) (between_own hmw (mm sl)) (fun _ s W W' row h => h.elim) ⟨m1, hm1, hpl, hmw, Fr.refl _ w, fun b hb => .inl hb, fun b hb => .inl hb⟩
    (fun x a' W => w.heap.size ≤ W.heap.size ∧ ∃ b, w.heap.size ≤ b ∧ W.heap[b]? = some (.cells (denL (csx x)).toArray t (0, 0)) ∧ ¬ Foot W b ∧ a'.defers = [] ∧ ∀ j, SlotsOk ((putP sl ps.toList (encs x)).set q (.ptr j ⟨b, 0, none⟩ 0)) a'.tmps) ?_ ?_ ?_ ?_ (fun D c pre W _ _ h => h.elim)
  · rintro x a' _ W W' row ⟨h1, b, h2, h3, h4, h5, h6⟩ hgr hrow
    refine ⟨Nat.le_trans h1 hgr.size, b, h2, ?_, fun h7 => h4 (hF.old W W' row b h1 hgr (fun r e => (hrow r e).1) h7), h5, h6⟩
    refine (hgr.block b (Array.getElem?_eq_some_iff.1 h3).1 fun e => ?_).trans h3
    obtain ⟨_, o, h7, h8⟩ := hrow b e.symm
    rw [h3] at h7; injection h7 with h7; subst h7; cases h8
  · rintro l pre x W Kk ⟨m2, h1, h2, h3, h4, h5⟩ hK
    refine round_part hassign (sl := putP sl ps.toList (encs x)) ?_ rfl h4.size h3 (fun k hk => ⟨fun o e => by have := h2 k hk; unfold plainB at this; rw [e] at this; exact this, fun o e => by have := h2 k hk; unfold plainB at this; rw [e] at this; exact this⟩) h4 h5 (hasg pre x m2 h1) ?_
    · have := putP_ok (ps := ps.toList) (vs := encs x) hs0.slots
      have e : (ps.zip (denL (encs x)).toArray).toList = ps.toList.zip (denL (encs x)) := by simp
      rw [← Array.foldl_toList, e]
      exact this
    · rintro e a' sl' m3 W' ⟨rfl, b, rfl, rfl⟩ hloc hsl hd' hmo hkf hst hfr hfre hsz
      have hpair := List.pairwise_append.1 hmo.sep
      have hm2' : MemOk m2 W' := ⟨fun k hk => hmo.holds k (by simp [hk]), hpair.1⟩
      have hnf : ¬ foots m2 b := fun ⟨k, hk, hb⟩ => hpair.2.2 k hk _ (List.mem_singleton.2 rfl) (.inr rfl) b hb rfl
      have hbw : w.heap.size ≤ b := by
        rcases hloc.2 b ⟨⟨⟨b, 0, none⟩, csx x, .var t⟩, by simp, rfl⟩ with h6 | h6
        · exact (hnf h6).elim
        · exact Nat.le_trans h4.size h6
      refine hK a' W' hkf hst ⟨m2, h1, h2, hm2', hfr, ⟨fun b hb => hfre.1 b ?_, fun b hb => hfre.2 b ?_⟩⟩ ⟨hfr.size, b, hbw, (hmo.holds ⟨⟨b, 0, none⟩, csx x, .var t⟩ (by simp)).2.2, fun h6 => hnf ((hF.iff pre m2 W' h1 hm2' b hbw).2 h6), hd', fun j => ?_⟩
      iterate 2
        · obtain ⟨k, hk, h6⟩ := hb; exact ⟨k, by simp [hk], h6⟩
      · refine ⟨by simpa using hsl.1, fun i y v hy hv => ?_⟩
        rw [List.getElem?_set] at hy
        by_cases hqi : q = i
        · subst hqi
          rw [if_pos rfl] at hy
          split at hy
          · rename_i hlt
            injection hy with hy
            subst hy
            have := hsl.2 q (.ptr m2.length ⟨b, 0, none⟩ 0) v (by rw [List.getElem?_set_self hlt]) hv
            rcases this with h | h
            · cases h
            · exact .inr h
          · cases hy
        · rw [if_neg hqi] at hy
          exact hsl.2 i y v (by rw [List.getElem?_set_ne hqi]; exact hy) hv
  · rintro l pre x a' W _ _ ⟨m2, h1, h2, h3, h4, h5⟩ ⟨h6, b, h7, h8, h9, h10, h11⟩ hlt
    have hnf : ¬ foots m2 b := fun h => h9 ((hF.iff pre m2 W h1 h3 b h7).1 h)
    refine round_part hbody (h11 m2.length) h10 h4.size (h3.and_one h8 hnf) (fun k hk => by
      rcases List.mem_append.1 hk with hk | hk
      · exact ⟨fun o e => by have := h2 k hk; unfold plainB at this; rw [e] at this; exact this, fun o e => by have := h2 k hk; unfold plainB at this; rw [e] at this; exact this⟩
      · exact ⟨fun o e => (by rw [List.mem_singleton.1 hk] at e; cases e), fun o e => (by rw [List.mem_singleton.1 hk] at e; cases e)⟩) h4 ⟨fun b' hb => ?_, fun b' hb => ?_⟩ (hround pre x b m2 hlt h1) ?_
    · obtain ⟨k, hk, hw, hb⟩ := hb
      rcases List.mem_append.1 hk with hk | hk
      · exact h5.1 b' ⟨k, hk, hw, hb⟩
      · rw [List.mem_singleton] at hk
        subst hk
        simp only [Blk.foot, Blk.bn, Option.some.injEq] at hb
        exact .inr (by omega)
    · obtain ⟨k, hk, hb⟩ := hb
      rcases List.mem_append.1 hk with hk | hk
      · exact h5.2 b' ⟨k, hk, hb⟩
      · rw [List.mem_singleton] at hk
        subst hk
        simp only [Blk.foot, Blk.bn, Option.some.injEq] at hb
        exact .inr (by omega)
    · rintro e a2 sl' m3 W' ⟨rfl, m4, hfit, hmm, hpl4⟩ _ hsl hd' hmo hkf hst hfr hfre hsz
      exact ⟨hkf, hst, m4, hmm, hpl4, (hfit W' hmo).1, hfr, fun b hb => hfre.1 b ((hfit W' hmo).2.1 b hb), fun b hb => hfre.2 b ((hfit W' hmo).2.2 b hb)⟩
  · rintro D ys W hD hys ⟨m2, h2, hp2, hm2, hf2, hfr2⟩ hdef
    have hDlt : D < W.heap.size := (Array.getElem?_eq_some_iff.1 hdef).1
    have hDfoot : ¬ foots m2 D := by
      rintro ⟨k, hk, hb⟩
      rcases foot_cells hmw hm2 hp2 hk hb with h | ⟨o, h3, h4⟩
      · omega
      · rw [hdef] at h3; injection h3 with h3; subst h3; cases h4
    have hsim2 : Sim W ⟨wrs m2, foots m2, { target := .collected D, args := #[] } :: a.defers⟩ sl m2 { a with defers := { target := .collected D, args := #[] } :: a.defers } W :=
      ⟨hs0.slots, rfl, hm2, Fr.refl _ W, fun b hb => .inl hb, fun b hb => .inl hb⟩
    show B.wpIn _ _ _ _ _ _
    refine wpIn_mono (wpIn_wide.2 (codeK_sound (hrest ys m2 hys h2) hsim2)) fun e a' w' hq => ?_
    obtain ⟨sl', m', hq, hs'⟩ := hq
    have hdef' : w'.heap[D]? = some (.deferred (some [])) := (hs'.fr.block D hDlt fun ⟨k, hk, _, hb⟩ => hDfoot ⟨k, hk, hb⟩).trans hdef
    have hDfoot' : ¬ foots m' D := fun hb => (hs'.fresh.2 D hb).elim hDfoot fun h => by omega
    have hm' : MemOk m' (w'.putObj D (.deferred none)) := hs'.mem.keep (by simp [World.putObj]) fun k hk b hb => World.putObj_heap_other (fun e => hDfoot' ⟨k, hk, by rw [← e]; exact hb⟩)
    have fin : ∀ r, K r m' → (results fn a'.tmps).run P (w'.putObj D (.deferred none)) = .ok r.den (w'.putObj D (.deferred none)) →
        LeavesInM Fence.wide 1 P fn a'.tmps (fun e w' => ∃ r m', K r m' ∧ e = .returned r.den ∧ MemOk m' w' ∧ Fr (wrs m) w0 w' ∧ Fresh (own m) w0 m') a'.defers .returning w' := by
      intro r hr hres
      have hd' : a'.defers = { target := .collected D, args := #[] } :: a.defers := hs'.defers
      rw [hd', hd]
      refine ⟨by simp, .inl ⟨D, w'.putObj D (.deferred none), rfl, run_takeDeferred hdef', r.den, hres, r, m', hr, rfl, hm', ?_, ?_, ?_⟩⟩
      · refine ⟨hs'.fr.os.trans (hf2.os.trans hs0.fr.os), hs'.fr.tape.trans (hf2.tape.trans hs0.fr.tape), hs'.fr.output.trans (hf2.output.trans hs0.fr.output), ?_, fun k hk hw => ?_⟩
        · have := hs'.fr.size; have := hf2.size; have := hs0.fr.size
          simp [World.putObj]; omega
        · have h1 := hs0.fr.size
          have h2' := hf2.size
          have hkD : k ≠ D := by omega
          rw [World.putObj_heap_other (by omega)]
          have hw1 : ¬ wrs m1 k := fun h => (hfresh0.1 k h).elim hw fun h => by omega
          have hw2 : ¬ wrs m2 k := fun h => (hfr2.1 k h).elim hw1 fun h => by omega
          exact (hs'.fr.block k (by omega) hw2).trans ((hf2.block k (by omega) hw1).trans (hs0.fr.block k hk hw))
      · intro b hb
        have h1 := hs0.fr.size
        have h2' := hf2.size
        rcases hs'.fresh.1 b hb with h | h
        · rcases hfr2.1 b h with h | h
          · exact hfresh0.1 b h
          · exact .inr (by omega)
        · exact .inr (by omega)
      · intro b hb
        have h1 := hs0.fr.size
        have h2' := hf2.size
        rcases hs'.fresh.2 b hb with h | h
        · rcases hfr2.2 b h with h | h
          · exact hfresh0.2 b h
          · exact .inr (by omega)
        · exact .inr (by omega)
    cases e with
    | normal =>
      obtain ⟨zs, h3, h4⟩ := results_spec hs'.slots hq
      exact fin _ (retK_spec h3) (h4 _ hm')
    | ret =>
      obtain ⟨zs, h3, h4⟩ := results_spec hs'.slots hq
      exact fin _ (retK_spec h3) (h4 _ hm')
    | exit id => exact hq.elim
    | goto l => exact hq.elim
    | panic ch => exact hq.elim
    | outgrown => exact hq.elim
end
end Go.Sx
