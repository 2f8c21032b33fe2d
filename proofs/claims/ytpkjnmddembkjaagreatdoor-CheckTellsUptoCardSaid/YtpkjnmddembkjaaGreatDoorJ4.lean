/-
  Policies at a switch: no greater, no deeper, no wider, no more numbers. Plain; Statements that draw their order: what is read alone is read first.
-/
import Derived.Test.YtpkjnmddembkjaaGreatDoorJ3
import Derived.Test.YtpkjnmddembkjaaGreatDoorSxC
import Derived.OrdersHeld
namespace Go.Proofs.YtpkjnmddembkjaaGreatDoor
open Go.Sx
set_option maxRecDepth 20000
set_option linter.unusedVariables false
namespace Pd
theorem mem_valsL {g v : Int} {l : List T} : v ∈ valsL g l ↔ ∃ x ∈ l, v ∈ vals g x := by
  induction l with
  | nil => simp [valsL]
  | cons x l ih => simp only [valsL, List.mem_append, ih, List.mem_cons, exists_eq_or_imp]
theorem fold_sub {g w k f v out d : Int} {l : List T} (hk : k = 5 ∨ k = 6) (hd : d = 1 ∨ d = 2) (ho : out = 1 ∨ out = 2) (h : w ∈ vals g (fold k f v out d l)) : ∃ x ∈ l, w ∈ vals g x := by
  unfold fold at h
  split at h
  · rw [vals_mk, if_neg (by omega)] at h; simp [valsL] at h
  · have hf : ∀ x ∈ l.filter (fun x => !decide (x.k = out)), x ∈ l := fun x hx => (List.mem_filter.1 hx).1
    split at h
    · rw [vals_mk, if_neg (by omega)] at h; simp [valsL] at h
    · rename_i x e; rw [e] at hf; exact ⟨x, hf x (by simp), h⟩
    · rename_i x y r e
      rw [e] at hf
      rw [vals_mk, if_neg (by omega), List.nil_append, mem_valsL] at h
      obtain ⟨z, hz, hw⟩ := h
      exact ⟨z, hf z hz, hw⟩
theorem cut_sub (sw g w : Int) : ∀ (n : Nat) (p : T), size p ≤ n → fits p = true → w ∈ vals g (cut sw p) → w ∈ vals g p
  | 0, p, hn, _, _ => absurd (size_pos p) (by omega)
  | n + 1, ⟨k, f, v, l⟩, hn, h, hw => by
    have ih : ∀ y ∈ l, w ∈ vals g (cut sw y) → w ∈ vals g y := fun y hy => cut_sub sw g w n y (by have := size_lt (k := k) (f := f) (v := v) hy; omega) ((fits_mk'.1 h).2 y hy)
    have hm : (∃ x ∈ l.map (cut sw), w ∈ vals g x) → w ∈ vals g (.mk k f v l) := fun ⟨x, hx, hv⟩ => by
      obtain ⟨y, hy, rfl⟩ := List.mem_map.1 hx
      rw [vals_mk, List.mem_append, mem_valsL]
      exact .inr ⟨y, hy, ih y hy hv⟩
    have hsh := (fits_mk'.1 h).1
    by_cases h35 : k = 3 ∧ f = 5
    · obtain ⟨rfl, rfl⟩ := h35
      rw [cut_sw] at hw
      split at hw <;> simp [vals, valsL] at hw
    by_cases h5 : k = 5
    · subst h5
      rw [cut_5] at hw
      exact hm (fold_sub (.inl rfl) (.inr rfl) (.inl rfl) hw)
    by_cases h6 : k = 6
    · subst h6
      rw [cut_6] at hw
      exact hm (fold_sub (.inr rfl) (.inl rfl) (.inr rfl) hw)
    by_cases h4 : k = 4
    · subst h4
      obtain ⟨rfl, rfl, hl1⟩ : f = 0 ∧ v = 0 ∧ l.length = 1 := by omega
      match l, hl1 with
      | [q], _ =>
        rw [cut_4] at hw
        split at hw
        · split at hw <;> simp [vals, valsL] at hw
        · rw [vals_mk, List.mem_append, mem_valsL] at hw
          rcases hw with hw | hw
          · simp at hw
          · obtain ⟨x, hx, hv⟩ := hw
            rw [List.mem_singleton.1 hx] at hv
            exact hm ⟨_, by simp, hv⟩
    · have hl0 : l = [] := List.eq_nil_of_length_eq_zero (by omega)
      subst hl0
      rw [cut_no _ _ _ _ h35 (by omega)] at hw
      exact hw
theorem cut_size (sw : Int) (p : T) (h : fits p = true) : size (cut sw p) ≤ size p := (cut_facts ⟨sw, 0, 0, 0, 0, 0⟩ _ p (Nat.le_refl _) h).2.1
end Pd
namespace Po
theorem size_mk (k : Int) (p : Pd.T) (f v : Int) (l : List T) : size (.mk k p f v l) = 1 + (if k = 2 ∨ k = 3 ∨ k = 4 then 0 else Pd.size p) + sizeL l := by rw [size]
theorem deep_mk (k : Int) (p : Pd.T) (f v : Int) (l : List T) : deep (.mk k p f v l) = 1 + deepL l := by rw [deep]
theorem vals_mk (g k : Int) (p : Pd.T) (f v : Int) (l : List T) : vals g (.mk k p f v l) = (if k = 2 ∧ f = g then [v] else []) ++ (Pd.values g p ++ valsL g l) := by rw [vals, List.append_assoc]
theorem mem_valsL {g v : Int} {l : List T} : v ∈ valsL g l ↔ ∃ x ∈ l, v ∈ vals g x := by
  induction l with
  | nil => simp [valsL]
  | cons x l ih => simp only [valsL, List.mem_append, ih, List.mem_cons, exists_eq_or_imp]
theorem mem_le {x : T} {l : List T} (h : x ∈ l) : tot x ≤ totL l ∧ size x ≤ sizeL l ∧ deep x ≤ deepL l := by
  induction l with
  | nil => cases h
  | cons y l ih =>
    simp only [totL, sizeL, deepL]
    rcases List.mem_cons.1 h with rfl | h
    · omega
    · have := ih h; omega
theorem wide_mono {a b : List T} (h : a.length = b.length) (hw : ∀ (i : Nat) (x y : T), a[i]? = some x → b[i]? = some y → wide x ≤ wide y) :
    (∀ n m, n ≤ m → wideS n a ≤ wideS m b) ∧ (∀ n m, n ≤ m → wideU n a ≤ wideU m b) ∧ ∀ n m, n ≤ m → wideI n a ≤ wideI m b := by
  induction a generalizing b with
  | nil => cases b with
    | nil => exact ⟨fun n m h => h, fun n m h => h, fun n m h => h⟩
    | cons y b => simp at h
  | cons x a ih => cases b with
    | nil => simp at h
    | cons y b =>
      obtain ⟨h1, h2, h3⟩ := ih (b := b) (by simpa using h) fun i u v hu hv => hw (i + 1) u v (by simpa using hu) (by simpa using hv)
      have h0 := hw 0 x y rfl rfl
      refine ⟨fun n m hnm => ?_, fun n m hnm => ?_, fun n m hnm => ?_⟩
      · rw [wideS, wideS]
        refine h1 _ _ ?_
        have := Nat.mul_le_mul hnm h0
        omega
      · rw [wideU, wideU]; exact h2 _ _ (by omega)
      · rw [wideI, wideI]; exact h3 _ _ (by omega)
theorem wideI_ge : ∀ (l : List T) (n : Nat), n ≤ wideI n l ∧ ∀ x ∈ l, wide x ≤ wideI n l
  | [], n => ⟨Nat.le_refl _, fun x hx => by cases hx⟩
  | y :: l, n => by
    obtain ⟨h1, h2⟩ := wideI_ge l (max n (wide y))
    rw [wideI]
    refine ⟨by omega, fun x hx => ?_⟩
    rcases List.mem_cons.1 hx with rfl | hx
    · omega
    · exact h2 x hx
theorem wide_mk (k : Int) (p : Pd.T) (f v : Int) (l : List T) : wide (.mk k p f v l) = if k = 3 then wideS 1 l else if k = 4 then wideU 0 l else if k = 5 then wideI 0 l else 1 := by rw [wide]
theorem none_vals (g : Int) : Pd.values g noneP = [] := by
  apply List.eq_nil_iff_forall_not_mem.2
  intro w hw
  rw [Pd.values_mem] at hw
  unfold noneP at hw
  rw [Pd.vals_mk] at hw
  simp [Pd.valsL] at hw
/-- A policy at a switch. -/
theorem spec_facts (sw : Int) : ∀ (n : Nat) (x : T), tot x ≤ n → fits x = true → fits (spec sw x) = true ∧ tot (spec sw x) ≤ tot x ∧ size (spec sw x) ≤ size x ∧ deep (spec sw x) ≤ deep x ∧ wide (spec sw x) ≤ wide x ∧ vals 5 (spec sw x) = [] ∧ ∀ g w, w ∈ vals g (spec sw x) → w ∈ vals g x
  | 0, x, hn, _ => absurd (tot_pos x) (by omega)
  | n + 1, ⟨k, p, f, v, l⟩, hn, h => by
    obtain ⟨hsh, hfl⟩ := fits_iff.1 h
    have ih : ∀ y ∈ l, _ := fun y hy => spec_facts sw n y (by have := tot_lt (k := k) (q := p) (f := f) (v := v) hy; omega) (hfl y hy)
    have hfm : ∀ y ∈ l.map (spec sw), fits y = true := fun y hy => by obtain ⟨z, hz, rfl⟩ := List.mem_map.1 hy; exact (ih z hz).1
    have htm : totL (l.map (spec sw)) ≤ totL l ∧ sizeL (l.map (spec sw)) ≤ sizeL l ∧ deepL (l.map (spec sw)) ≤ deepL l := by
      clear hn h hsh hfl hfm
      induction l with
      | nil => simp [totL, sizeL, deepL]
      | cons y l ihl =>
        obtain ⟨h1, h2, h3⟩ := ihl fun z hz => ih z (List.mem_cons_of_mem _ hz)
        obtain ⟨_, h4, h5, h6, _⟩ := ih y (by simp)
        simp only [List.map_cons, totL, sizeL, deepL]
        omega
    have hv5 : valsL 5 (l.map (spec sw)) = [] := by
      apply List.eq_nil_iff_forall_not_mem.2
      intro w hw
      obtain ⟨x, hx, hv⟩ := mem_valsL.1 hw
      obtain ⟨z, hz, rfl⟩ := List.mem_map.1 hx
      rw [(ih z hz).2.2.2.2.2.1] at hv
      cases hv
    have hvs : ∀ g w, w ∈ valsL g (l.map (spec sw)) → w ∈ valsL g l := fun g w hw => by
      obtain ⟨x, hx, hv⟩ := mem_valsL.1 hw
      obtain ⟨z, hz, rfl⟩ := List.mem_map.1 hx
      exact mem_valsL.2 ⟨z, hz, (ih z hz).2.2.2.2.2.2 g w hv⟩
    obtain ⟨w1, w2, w3⟩ := wide_mono (a := l.map (spec sw)) (b := l) (by simp) fun i a b ha hb => by
      rw [List.getElem?_map, hb] at ha
      simp only [Option.map_some, Option.some.injEq] at ha
      rw [← ha]
      exact (ih b (List.mem_of_getElem? hb)).2.2.2.2.1
    have w1 := w1 1 1 (Nat.le_refl _)
    have w2 := w2 0 0 (Nat.le_refl _)
    have w3 := w3 0 0 (Nat.le_refl _)
    rw [spec_mk]
    rcases hsh with ⟨rfl, hr, ⟨rfl, rfl⟩, hl⟩ | ⟨rfl, rfl, hf1, hv1, hl⟩ | ⟨hk, rfl, ⟨rfl, rfl⟩, hl1, hl2⟩ | ⟨rfl, hr, ⟨rfl, rfl⟩, hl⟩
    · obtain rfl := List.eq_nil_of_length_eq_zero hl
      have hpf := right_fits hr
      have hsz := Pd.cut_size sw p hpf
      rw [if_neg (fun h => by omega), if_pos (.inl rfl), size_mk, size_mk, tot_mk, tot_mk]
      refine ⟨fits_iff.2 ⟨.inl ⟨rfl, Pd.cut_right ⟨sw, 0, 0, 0, 0, 0⟩ p hr, ⟨rfl, rfl⟩, rfl⟩, fun y hy => by simp at hy⟩, by simp only [List.map_nil]; omega, by simp only [List.map_nil]; simp; omega, Nat.le_refl _, Nat.le_refl _, ?_, fun g w hw => ?_⟩
      · rw [vals_mk, if_neg (by omega)]
        simp only [List.map_nil, valsL, List.append_nil, List.nil_append]
        apply List.eq_nil_iff_forall_not_mem.2
        intro w hw
        rw [Pd.values_mem, Pd.cut_vals sw p hpf] at hw
        cases hw
      · rw [vals_mk, if_neg (by omega)] at hw ⊢
        simp only [List.map_nil, valsL, List.append_nil, List.nil_append, Pd.values_mem] at hw ⊢
        exact Pd.cut_sub sw g w _ p (Nat.le_refl _) hpf hw
    · obtain rfl := List.eq_nil_of_length_eq_zero hl
      rw [if_neg (fun h => by omega), if_neg (fun h => by omega)]
      refine ⟨h, Nat.le_refl _, Nat.le_refl _, Nat.le_refl _, Nat.le_refl _, ?_, fun g w hw => hw⟩
      rw [vals_mk, if_neg (by omega), none_vals]
      rfl
    · rw [if_neg (fun h => by omega), if_neg (fun h => by omega), size_mk, size_mk, tot_mk, tot_mk, deep_mk, deep_mk, wide_mk, wide_mk]
      refine ⟨fits_iff.2 ⟨.inr (.inr (.inl ⟨hk, rfl, ⟨rfl, rfl⟩, by simpa using hl1, by simpa using hl2⟩)), hfm⟩, by omega, by split <;> omega, by omega, by rcases hk with rfl | rfl <;> simp <;> omega, ?_, fun g w hw => ?_⟩
      · rw [vals_mk, if_neg (by omega), none_vals, hv5]; rfl
      · rw [vals_mk, if_neg (by omega), none_vals] at hw ⊢
        exact hvs g w hw
    · have hpf := right_fits hr
      have hsz := Pd.cut_size sw p hpf
      have hk := Pd.fits_k (Pd.cut_fits sw p hpf)
      match l, hl with
      | [a, b], _ =>
      have e1 := tot_mk 5 p 0 0 [a, b]
      have e2 := size_mk 5 p 0 0 [a, b]
      have e3 := deep_mk 5 p 0 0 [a, b]
      have e4 := wide_mk 5 p 0 0 [a, b]
      rw [if_neg (by decide), if_neg (by decide), if_pos rfl] at e4
      rw [if_neg (by decide)] at e2
      by_cases hc : (5 : Int) = 5 ∧ (Pd.cut sw p).k ≤ 2
      · rw [if_pos hc]
        have hsel : ∀ y ∈ [a, b], fits (spec sw y) = true ∧ tot (spec sw y) ≤ tot (.mk 5 p 0 0 [a, b]) ∧ size (spec sw y) ≤ size (.mk 5 p 0 0 [a, b]) ∧ deep (spec sw y) ≤ deep (.mk 5 p 0 0 [a, b]) ∧ wide (spec sw y) ≤ wide (.mk 5 p 0 0 [a, b]) ∧ vals 5 (spec sw y) = [] ∧ ∀ g w, w ∈ vals g (spec sw y) → w ∈ vals g (.mk 5 p 0 0 [a, b]) := fun y hy => by
          obtain ⟨g1, g2, g3, g4, g5, g6, g7⟩ := ih y hy
          obtain ⟨m1, m2, m3⟩ := mem_le hy
          have m4 := (wideI_ge [a, b] 0).2 y hy
          refine ⟨g1, by omega, by omega, by omega, by omega, g6, fun g w hw => ?_⟩
          rw [vals_mk, List.mem_append, List.mem_append, mem_valsL]
          exact .inr (.inr ⟨y, hy, g7 g w hw⟩)
        by_cases hq : (Pd.cut sw p).k = 1
        · rw [hq]; exact hsel a (by simp)
        · rw [show (Pd.cut sw p).k = 2 by omega]; exact hsel b (by simp)
      · rw [if_neg hc, if_pos (.inr rfl), size_mk, tot_mk, deep_mk, wide_mk, if_neg (by decide), if_neg (by decide), if_pos rfl, if_neg (by decide), e1, e2, e3, e4]
        refine ⟨fits_iff.2 ⟨.inr (.inr (.inr ⟨rfl, Pd.cut_right ⟨sw, 0, 0, 0, 0, 0⟩ p hr, ⟨rfl, rfl⟩, rfl⟩)), hfm⟩, by omega, by omega, by omega, w3, ?_, fun g w hw => ?_⟩
        · rw [vals_mk, if_neg (by omega), hv5, List.append_nil, List.nil_append]
          apply List.eq_nil_iff_forall_not_mem.2
          intro w hw
          rw [Pd.values_mem, Pd.cut_vals sw p hpf] at hw
          cases hw
        · rw [vals_mk, if_neg (by omega), List.nil_append, List.mem_append] at hw ⊢
          rcases hw with hw | hw
          · rw [Pd.values_mem] at hw ⊢
            exact .inl (Pd.cut_sub sw g w _ p (Nat.le_refl _) hpf hw)
          · exact .inr (hvs g w hw)
theorem spec_tot (sw : Int) (x : T) (h : fits x = true) : tot (spec sw x) ≤ tot x := (spec_facts sw _ x (Nat.le_refl _) h).2.1
end Po
end Go.Proofs.YtpkjnmddembkjaaGreatDoor
namespace Go.Sx
set_option linter.unusedVariables false
section
variable {P : Program}
/-- A place in a block that stays as it is. -/
def inKept (js : List Nat) (H : List Blk) (sl : List AV) (t : Nat) : Bool :=
  match sl[t]? with
  | some (.hp _ _) => true
  | some (.hs _ _) => true
  | some (.ptr j _ _) => !js.contains j && decide (j < H.length)
  | some (.sl j _ _) => !js.contains j && decide (j < H.length)
  | some (.view j _ _ _ _) => !js.contains j && decide (j < H.length)
  | some (.raw _) => true
  | _ => false
/-- What looks at nothing but what stays as it is. -/
def keptLoad (js : List Nat) (H : List Blk) (sl : List AV) : Op → Bool
  | .load _ (.tmp t) => inKept js H sl t
  | .indexAddr _ (.tmp t) _ => inKept js H sl t
  | .slice _ (.tmp t) _ _ _ => inKept js H sl t
  | _ => false
/-- The length of a slice that does not stay. -/
def lenOut (js : List Nat) (H : List Blk) (sl : List AV) : Op → Bool
  | .call c => match c.callee, c.args.toList with
    | .builtin .len, [.tmp t] => match sl[t]? with
      | some (.sl j _ _) => js.contains j || decide (H.length ≤ j)
      | some (.view j _ _ _ _) => js.contains j || decide (H.length ≤ j)
      | _ => false
    | _, _ => false
  | _ => false
def easyK (P : Program) (js : List Nat) (H : List Blk) (sl : List AV) (op : Op) : Bool := (pureOp P op && !lenOut js H sl op) || keptLoad js H sl op
/-- The blocks that stay. -/
def Kept (js : List Nat) (H m : List Blk) : Prop := (hideF js 0 m).take H.length = H
theorem Kept.mem {js : List Nat} {H m : List Blk} (h : Kept js H m) {w : World} (hm : MemOk m w) : MemOk H w := by
  have h1 := hideF_ok (js := js) 0 hm
  exact ((MemFits.pre H.length h) w h1).1
/-- The next operation that may go first whatever the others do. -/
def nextK (P : Program) (js : List Nat) (H : List Blk) (sl : List AV) (done : List Nat) : Nat → List Oper → Option (Nat × Oper)
  | _, [] => none
  | i, o :: os => match done.contains i, readyO o done, easyK P js H sl o.op with
    | false, true, true => some (i, o)
    | _, _, _ => nextK P js H sl done (i + 1) os
theorem nextK_at {js : List Nat} {H : List Blk} {sl : List AV} {done : List Nat} : ∀ (os : List Oper) (i j : Nat) (o : Oper), nextK P js H sl done i os = some (j, o) → ∃ t, j = i + t ∧ os[t]? = some o
  | [], _, _, _, h => by simp [nextK] at h
  | x :: os, i, j, o, h => by
    unfold nextK at h
    split at h
    · simp only [Option.some.injEq, Prod.mk.injEq] at h
      obtain ⟨rfl, rfl⟩ := h
      exact ⟨0, rfl, rfl⟩
    · obtain ⟨t, h1, h2⟩ := nextK_at os (i + 1) j o h
      exact ⟨t + 1, by omega, by simpa using h2⟩
def KpS (H : List Blk) (w : World) : Prop := MemOk H w
/-- What is left of a statement that draws its order, in any order. -/
@[irreducible] def NOrdK (P : Program) (js : List Nat) (H : List Blk) (l : List Oper) (n : Nat) (done : List Nat) (sl : List AV) (m : List Blk) (k : List AV → List Blk → Prop) : Prop :=
  ∀ (w0 : World) (S : Own) (a : Act) (w : World), Sim w0 S sl m a w → wpAnyH P .any l.toArray (OrdQ w0 S k) (KpS H) n (listedOf l.length done) a w
@[irreducible] def NEachK (P : Program) (js : List Nat) (H : List Blk) (l : List Oper) (n : Nat) (done : List Nat) (sl : List AV) (m : List Blk) (k : List AV → List Blk → Prop) (rs : List (Nat × Oper)) : Prop :=
  ∀ x ∈ rs, ∀ (w0 : World) (S : Own) (a : Act) (w : World), Sim w0 S sl m a w → l.toArray[x.1]? = some x.2 → wpOp P l.toArray (OrdQ w0 S k) x.1 (fun a w => KpS H w ∧ wpAnyH P .any l.toArray (OrdQ w0 S k) (KpS H) n (listedOf l.length (x.1 :: done)) a w) a w
theorem st_orderK {Q : Post} {sl : List AV} {m : List Blk} {id : Nat} {l : List Oper} {js : List Nat} {H : List Blk} (hF : Kept js H m) (h1 : P.follows .mixedOrders = true) (n : Nat) (hn : l.length = n) (h : NOrdK P js H l n [] sl m (normS Q)) : codeK P (.region id l.toArray true) sl m Q := by
  simp only [codeK]
  subst hn
  unfold NDraw
  intro id w0 S a w hs
  unfold NOrdK at h
  refine wp_region_held (S := KpS H) h1 ?_
  have := h w0 S a { w with drawn := w.drawn + 1 } ⟨hs.slots, hs.defers, hs.mem.keep (Nat.le_refl _) (fun _ _ _ _ => rfl), ⟨hs.fr.os, hs.fr.tape, hs.fr.output, hs.fr.size, hs.fr.block⟩, hs.fresh⟩
  show wpAnyH P .any l.toArray (OrdQ w0 S (normS Q)) _ _ _ a _
  simpa [listedOf] using this
section
variable {js : List Nat} {H : List Blk} {l : List Oper} {n i : Nat} {done : List Nat} {sl : List AV} {m : List Blk} {k : List AV → List Blk → Prop}
theorem ordK_first {o : Oper} {v : AV} {sl' : List AV} (hn : nextK P js H sl done 0 l = some (i, o)) (hc : chkP l done i = true) (hF : Kept js H m)
    (h : NOrdK P js H l n (i :: done) sl' m k) {w0 : World} {S : Own} {a : Act} {w : World} (hs : Sim w0 S sl m a w) (hy : YieldsIf P l.toArray (KpS H) o v.den a) (hs' : SlotsOk sl' (a.put o.dst v.den).tmps) :
    wpAnyH P .any l.toArray (OrdQ w0 S k) (KpS H) (n + 1) (listedOf l.length done) a w := by
  obtain ⟨t, ht, ho⟩ := nextK_at l 0 i o hn
  obtain rfl : i = t := by omega
  simp only [chkP, Bool.and_eq_true] at hc
  obtain ⟨⟨h1, h2⟩, h3⟩ := hc
  have ho' : l.toArray[i]? = some o := by simpa using ho
  unfold NOrdK at h
  exact wpAnyH_take ho' h1 h2 h3 (fun c a w hq => by cases hq.1) hy (hF.mem hs.mem) (h w0 S _ w (hs.step hs' hs.mem hs.fr hs.fresh))
theorem st_ordK1 {d : Option Tmp} {op : Op} {t : TypeId} {p : String} {e : Array Edge} (hn : nextK P js H sl done 0 l = some (i, ⟨d, op, t, p, e, none⟩)) (hc : chkP l done i = true) (hF : Kept js H m)
    (h : ∀ K : List AV → Prop, (∀ sl, NOrdK P js H l n (i :: done) sl m k → K sl) → opV P sl H op fun v => dstK sl d v K) : NOrdK P js H l (n + 1) done sl m k := by
  unfold NOrdK
  intro w0 S a w hs
  obtain ⟨v, h1, h2⟩ := opV_spec hs.slots (h _ fun _ h => h)
  obtain ⟨sl', h3, h4⟩ := dstK_spec h1 hs.slots
  exact ordK_first hn hc hF h3 hs (.inl ⟨rfl, fun w hw => h2 w hw _ rfl⟩) h4
theorem st_ordK1g {d : Option Tmp} {op : Op} {t : TypeId} {p : String} {e : Array Edge} {g : Nat × Bool} (hn : nextK P js H sl done 0 l = some (i, ⟨d, op, t, p, e, some g⟩)) (hc : chkP l done i = true) (hF : Kept js H m)
    (h : ∀ K : List AV → Prop, (∀ sl, NOrdK P js H l n (i :: done) sl m k → K sl) → guardK l.toArray sl g.1 g.2 (opV P sl H op fun v => dstK sl d v K) (dstK sl d (.raw undef) K)) : NOrdK P js H l (n + 1) done sl m k := by
  unfold NOrdK
  intro w0 S a w hs
  rcases guardK_spec (h _ fun _ h => h) hs.slots (o := ⟨d, op, t, p, e, some g⟩) rfl with ⟨hw, h⟩ | ⟨hw, h⟩
  · obtain ⟨v, h1, h2⟩ := opV_spec hs.slots h
    obtain ⟨sl', h3, h4⟩ := dstK_spec h1 hs.slots
    exact ordK_first hn hc hF h3 hs (.inl ⟨hw, fun w hw => h2 w hw _ rfl⟩) h4
  · obtain ⟨sl', h3, h4⟩ := dstK_spec h hs.slots
    exact ordK_first (v := .raw undef) hn hc hF h3 hs (.inr ⟨hw, rfl⟩) h4
theorem st_ordKA {rs : List (Nat × Oper)} (_hn : nextK P js H sl done 0 l = none) (hr : readys done 0 l = rs) (hc : chkR l done rs = true) (hne : rs ≠ []) (h : NEachK P js H l n done sl m k rs) : NOrdK P js H l (n + 1) done sl m k := by
  unfold NOrdK
  intro w0 S a w hs
  have hc : Region.ready .any l.toArray (listedOf l.length done) = rs.map (·.1) := by simpa [chkR] using hc
  refine wpAnyH_all hc (fun e => hne (by simpa using e)) fun i hi => ?_
  obtain ⟨x, hx, rfl⟩ := List.mem_map.1 hi
  obtain ⟨t, h1, h2⟩ := readys_at l 0 x (hr ▸ hx)
  unfold NEachK at h
  exact h x hx w0 S a w hs (by rw [h1]; simpa using h2)
theorem st_ordK0 (_hr : readys done 0 l = []) (hc : chkR l done [] = true) (h : k sl m) : NOrdK P js H l n done sl m k := by
  unfold NOrdK
  intro w0 S a w hs
  have hc : Region.ready .any l.toArray (listedOf l.length done) = [] := by simpa [chkR] using hc
  exact wpAnyH_done hc ⟨rfl, sl, m, h, hs⟩ n
theorem st_eachK0 : NEachK P js H l n done sl m k [] := by unfold NEachK; intro x hx; cases hx
theorem st_eachK {rs : List (Nat × Oper)} {d : Option Tmp} {op : Op} {t : TypeId} {p : String} {e : Array Edge}
    (h : ∀ K : List AV → List Blk → Prop, (∀ sl m, NOrdK P js H l n (i :: done) sl m k → K sl m) → opM P sl m op fun v m' => NH (Kept js H m') (dstK sl d v fun sl' => K sl' m')) (hr : NEachK P js H l n done sl m k rs) : NEachK P js H l n done sl m k ((i, ⟨d, op, t, p, e, none⟩) :: rs) := by
  unfold NEachK at *
  intro x hx
  rcases List.mem_cons.1 hx with rfl | hx
  · intro w0 S a w hs ho
    unfold wpOp
    simp only [ho]
    rw [if_pos (show Region.wanted ⟨d, op, t, p, e, none⟩ (yielded l.toArray a.tmps) = true from rfl)]
    refine .inl (opM_spec hs.slots hs.mem hs.fr hs.fresh (o := ⟨d, op, t, p, e, none⟩) (h _ fun _ _ h => h) fun v m' w' hl => ?_)
    obtain ⟨h0, hk⟩ := NH_iff.1 hl.k
    obtain ⟨sl', h1, h2⟩ := dstK_spec hk hs.slots
    unfold NOrdK at h1
    exact ⟨h0.mem hl.mem, h1 w0 S _ _ (hs.step h2 hl.mem hl.fr hl.fresh)⟩
  · exact hr x hx
theorem st_eachKg {rs : List (Nat × Oper)} {d : Option Tmp} {op : Op} {t : TypeId} {p : String} {e : Array Edge} {g : Nat × Bool} (hF : Kept js H m)
    (h : ∀ K : List AV → List Blk → Prop, (∀ sl m, NOrdK P js H l n (i :: done) sl m k → K sl m) → guardK l.toArray sl g.1 g.2 (opM P sl m op fun v m' => NH (Kept js H m') (dstK sl d v fun sl' => K sl' m')) (dstK sl d (.raw undef) fun sl' => K sl' m)) (hr : NEachK P js H l n done sl m k rs) : NEachK P js H l n done sl m k ((i, ⟨d, op, t, p, e, some g⟩) :: rs) := by
  unfold NEachK at *
  intro x hx
  rcases List.mem_cons.1 hx with rfl | hx
  · intro w0 S a w hs ho
    unfold wpOp
    simp only [ho]
    rcases guardK_spec (h _ fun _ _ h => h) hs.slots (o := ⟨d, op, t, p, e, some g⟩) rfl with ⟨hw, h⟩ | ⟨hw, h⟩
    · rw [if_pos hw]
      refine .inl (opM_spec hs.slots hs.mem hs.fr hs.fresh (o := ⟨d, op, t, p, e, some g⟩) h fun v m' w' hl => ?_)
      obtain ⟨h0, hk⟩ := NH_iff.1 hl.k
      obtain ⟨sl', h1, h2⟩ := dstK_spec hk hs.slots
      unfold NOrdK at h1
      exact ⟨h0.mem hl.mem, h1 w0 S _ _ (hs.step h2 hl.mem hl.fr hl.fresh)⟩
    · rw [if_neg (by simp [hw])]
      obtain ⟨sl', h3, h4⟩ := dstK_spec h hs.slots
      unfold NOrdK at h3
      exact ⟨hF.mem hs.mem, h3 w0 S _ _ (hs.step (v := undef) h4 hs.mem hs.fr hs.fresh)⟩
  · exact hr x hx
/-! ### In the order of the text, as long as that serves -/
def downK : Nat → List Nat
  | 0 => []
  | j + 1 => j :: downK j
/-- What is left, from the j-th on. -/
@[irreducible] def NOrdS (P : Program) (js : List Nat) (H : List Blk) (l : List Oper) (n j : Nat) (rest : List Oper) (sl : List AV) (m : List Blk) (k : List AV → List Blk → Prop) : Prop :=
  l.drop j = rest → NOrdK P js H l n (downK j) sl m k
theorem st_orderS {Q : Post} {id : Nat} (js : List Nat) (hH : hideF js 0 m = H) (hF : Kept js H m) (h1 : P.follows .mixedOrders = true) (n : Nat) (hn : l.length = n) (h : NOrdS P js H l n 0 l sl m (normS Q)) : codeK P (.region id l.toArray true) sl m Q := by
  unfold NOrdS at h
  exact st_orderK hF h1 n hn (h rfl)
theorem st_ordSout {j : Nat} {rest : List Oper} (h : NOrdK P js H l n (downK j) sl m k) : NOrdS P js H l n j rest sl m k := by
  unfold NOrdS
  intro _
  exact h
theorem drop_headK {j : Nat} {o : Oper} {rest : List Oper} (h : l.drop j = o :: rest) : l[j]? = some o ∧ l.drop (j + 1) = rest := by
  constructor
  · have := congrArg (fun t => t[0]?) h
    simpa using this
  · rw [← List.drop_drop, h]; rfl
theorem ordS_first {j : Nat} {o : Oper} {v : AV} {sl' : List AV} (ho : l[j]? = some o) (hc : chkP l (downK j) j = true) (hF : Kept js H m)
    (h : NOrdK P js H l n (downK (j + 1)) sl' m k) {w0 : World} {S : Own} {a : Act} {w : World} (hs : Sim w0 S sl m a w) (hy : YieldsIf P l.toArray (KpS H) o v.den a) (hs' : SlotsOk sl' (a.put o.dst v.den).tmps) :
    wpAnyH P .any l.toArray (OrdQ w0 S k) (KpS H) (n + 1) (listedOf l.length (downK j)) a w := by
  simp only [chkP, Bool.and_eq_true] at hc
  obtain ⟨⟨h1, h2⟩, h3⟩ := hc
  have ho' : l.toArray[j]? = some o := by simpa using ho
  unfold NOrdK at h
  exact wpAnyH_take ho' h1 h2 h3 (fun c a w hq => by cases hq.1) hy (hF.mem hs.mem) (h w0 S _ w (hs.step hs' hs.mem hs.fr hs.fresh))
theorem st_ordS1 {j : Nat} {rest : List Oper} {d : Option Tmp} {op : Op} {t : TypeId} {p : String} {e : Array Edge} (_he : easyK P js H sl op = true) (hc : chkP l (downK j) j = true) (hF : Kept js H m)
    (h : ∀ K : List AV → Prop, (∀ sl, NOrdS P js H l n (j + 1) rest sl m k → K sl) → opV P sl H op fun v => dstK sl d v K) : NOrdS P js H l (n + 1) j (⟨d, op, t, p, e, none⟩ :: rest) sl m k := by
  unfold NOrdS
  intro hd
  obtain ⟨ho, hd2⟩ := drop_headK hd
  unfold NOrdK
  intro w0 S a w hs
  obtain ⟨v, h1, h2⟩ := opV_spec hs.slots (h _ fun _ h => h)
  obtain ⟨sl', h3, h4⟩ := dstK_spec h1 hs.slots
  unfold NOrdS at h3
  exact ordS_first ho hc hF (h3 hd2) hs (.inl ⟨rfl, fun w hw => h2 w hw _ rfl⟩) h4
theorem st_ordS1g {j : Nat} {rest : List Oper} {d : Option Tmp} {op : Op} {t : TypeId} {p : String} {e : Array Edge} {g : Nat × Bool} (_he : easyK P js H sl op = true) (hc : chkP l (downK j) j = true) (hF : Kept js H m)
    (h : ∀ K : List AV → Prop, (∀ sl, NOrdS P js H l n (j + 1) rest sl m k → K sl) → guardK l.toArray sl g.1 g.2 (opV P sl H op fun v => dstK sl d v K) (dstK sl d (.raw undef) K)) : NOrdS P js H l (n + 1) j (⟨d, op, t, p, e, some g⟩ :: rest) sl m k := by
  unfold NOrdS
  intro hd
  obtain ⟨ho, hd2⟩ := drop_headK hd
  unfold NOrdK
  intro w0 S a w hs
  rcases guardK_spec (h _ fun _ h => h) hs.slots (o := ⟨d, op, t, p, e, some g⟩) rfl with ⟨hw, h⟩ | ⟨hw, h⟩
  · obtain ⟨v, h1, h2⟩ := opV_spec hs.slots h
    obtain ⟨sl', h3, h4⟩ := dstK_spec h1 hs.slots
    unfold NOrdS at h3
    exact ordS_first ho hc hF (h3 hd2) hs (.inl ⟨hw, fun w hw => h2 w hw _ rfl⟩) h4
  · obtain ⟨sl', h3, h4⟩ := dstK_spec h hs.slots
    unfold NOrdS at h3
    exact ordS_first (v := .raw undef) ho hc hF (h3 hd2) hs (.inr ⟨hw, rfl⟩) h4
/-- No other one may come up. -/
def chkSole (l : List Oper) (j : Nat) : Bool := Region.ready .any l.toArray (listedOf l.length (downK j)) == [j]
theorem ordS_sole {j : Nat} {o : Oper} (ho : l[j]? = some o) (hc : chkSole l j = true) {w0 : World} {S : Own} {a : Act} {w : World} (_hs : Sim w0 S sl m a w)
    (h : wpOp P l.toArray (OrdQ w0 S k) j (fun a w => KpS H w ∧ wpAnyH P .any l.toArray (OrdQ w0 S k) (KpS H) n (listedOf l.length (downK (j + 1))) a w) a w) :
    wpAnyH P .any l.toArray (OrdQ w0 S k) (KpS H) (n + 1) (listedOf l.length (downK j)) a w := by
  have hc : Region.ready .any l.toArray (listedOf l.length (downK j)) = [j] := by simpa [chkSole] using hc
  refine wpAnyH_all hc (by simp) fun i hi => ?_
  obtain rfl := List.mem_singleton.1 hi
  exact h
theorem st_ordS2 {j : Nat} {rest : List Oper} {d : Option Tmp} {op : Op} {t : TypeId} {p : String} {e : Array Edge} (hc : chkSole l j = true)
    (h : ∀ K : List AV → List Blk → Prop, (∀ sl m, NOrdS P js H l n (j + 1) rest sl m k → K sl m) → opM P sl m op fun v m' => NH (Kept js H m') (dstK sl d v fun sl' => K sl' m')) : NOrdS P js H l (n + 1) j (⟨d, op, t, p, e, none⟩ :: rest) sl m k := by
  unfold NOrdS
  intro hd
  obtain ⟨ho, hd2⟩ := drop_headK hd
  unfold NOrdK
  intro w0 S a w hs
  refine ordS_sole ho hc hs ?_
  unfold wpOp
  have ho' : l.toArray[j]? = some ⟨d, op, t, p, e, none⟩ := by simpa using ho
  simp only [ho']
  rw [if_pos (show Region.wanted ⟨d, op, t, p, e, none⟩ (yielded l.toArray a.tmps) = true from rfl)]
  refine .inl (opM_spec hs.slots hs.mem hs.fr hs.fresh (o := ⟨d, op, t, p, e, none⟩) (h _ fun _ _ h => h) fun v m' w' hl => ?_)
  obtain ⟨h0, hk⟩ := NH_iff.1 hl.k
  obtain ⟨sl', h1, h2⟩ := dstK_spec hk hs.slots
  unfold NOrdS at h1
  have h1 := h1 hd2
  unfold NOrdK at h1
  exact ⟨h0.mem hl.mem, h1 w0 S _ _ (hs.step h2 hl.mem hl.fr hl.fresh)⟩
theorem st_ordS2g {j : Nat} {rest : List Oper} {d : Option Tmp} {op : Op} {t : TypeId} {p : String} {e : Array Edge} {g : Nat × Bool} (hc : chkSole l j = true) (hF : Kept js H m)
    (h : ∀ K : List AV → List Blk → Prop, (∀ sl m, NOrdS P js H l n (j + 1) rest sl m k → K sl m) → guardK l.toArray sl g.1 g.2 (opM P sl m op fun v m' => NH (Kept js H m') (dstK sl d v fun sl' => K sl' m')) (dstK sl d (.raw undef) fun sl' => K sl' m)) : NOrdS P js H l (n + 1) j (⟨d, op, t, p, e, some g⟩ :: rest) sl m k := by
  unfold NOrdS
  intro hd
  obtain ⟨ho, hd2⟩ := drop_headK hd
  unfold NOrdK
  intro w0 S a w hs
  refine ordS_sole ho hc hs ?_
  unfold wpOp
  have ho' : l.toArray[j]? = some ⟨d, op, t, p, e, some g⟩ := by simpa using ho
  simp only [ho']
  rcases guardK_spec (h _ fun _ _ h => h) hs.slots (o := ⟨d, op, t, p, e, some g⟩) rfl with ⟨hw, h⟩ | ⟨hw, h⟩
  · rw [if_pos hw]
    refine .inl (opM_spec hs.slots hs.mem hs.fr hs.fresh (o := ⟨d, op, t, p, e, some g⟩) h fun v m' w' hl => ?_)
    obtain ⟨h0, hk⟩ := NH_iff.1 hl.k
    obtain ⟨sl', h1, h2⟩ := dstK_spec hk hs.slots
    unfold NOrdS at h1
    have h1 := h1 hd2
    unfold NOrdK at h1
    exact ⟨h0.mem hl.mem, h1 w0 S _ _ (hs.step h2 hl.mem hl.fr hl.fresh)⟩
  · rw [if_neg (by simp [hw])]
    obtain ⟨sl', h3, h4⟩ := dstK_spec h hs.slots
    unfold NOrdS at h3
    have h3 := h3 hd2
    unfold NOrdK at h3
    exact ⟨hF.mem hs.mem, h3 w0 S _ _ (hs.step (v := undef) h4 hs.mem hs.fr hs.fresh)⟩
theorem st_ordS0 {j : Nat} (hc : chkR l (downK j) [] = true) (h : k sl m) : NOrdS P js H l n j [] sl m k := by
  unfold NOrdS NOrdK
  intro _ w0 S a w hs
  have hc : Region.ready .any l.toArray (listedOf l.length (downK j)) = [] := by simpa [chkR] using hc
  exact wpAnyH_done hc ⟨rfl, sl, m, h, hs⟩ n
end
end
theorem gNOK {P : Program} {js : List Nat} {H : List Blk} {l : List Oper} {n : Nat} {sl : List AV} {m : List Blk} {k : List AV → List Blk → Prop} {done : List Nat} (h : NOrdK P js H l n done sl m k) : NOrdK P js H l n done sl m k := h
theorem gNEK {P : Program} {js : List Nat} {H : List Blk} {l : List Oper} {n : Nat} {sl : List AV} {m : List Blk} {k : List AV → List Blk → Prop} {done : List Nat} {rs : List (Nat × Oper)} (h : NEachK P js H l n done sl m k rs) : NEachK P js H l n done sl m k rs := h
theorem gNRK {P : Program} {js : List Nat} {H : List Blk} {l : List Oper} {n : Nat} {sl : List AV} {m : List Blk} {k : List AV → List Blk → Prop} {j : Nat} {rest : List Oper} (h : NOrdS P js H l n j rest sl m k) : NOrdS P js H l n j rest sl m k := h
theorem gKept {js : List Nat} {H m : List Blk} (h : (hideF js 0 m).take H.length = H) : Kept js H m := h
end Go.Sx
