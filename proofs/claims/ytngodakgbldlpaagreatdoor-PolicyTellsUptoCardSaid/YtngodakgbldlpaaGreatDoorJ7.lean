import Derived.Test.YtngodakgbldlpaaGreatDoorJ1
import Derived.Calls
import Derived.Listen
namespace Go.Proofs.YtngodakgbldlpaaGreatDoor
open Go.Sx
set_option maxRecDepth 20000
set_option linter.unusedVariables false
namespace Po
structure S where
  port : Int
  p0 : Int
  p1 : Int
  p2 : Int
  p3 : Int
deriving DecidableEq
def S.at_ (sw : Int) (s : S) : Pd.At := ⟨sw, s.port, s.p0, s.p1, s.p2, s.p3⟩
def S.av (s : S) : List AV := [.int .i64 s.port, .int .i64 s.p0, .int .i64 s.p1, .int .i64 s.p2, .int .i64 s.p3]
def S.vs (s : S) : List Value := [.int .i64 s.port, .int .i64 s.p0, .int .i64 s.p1, .int .i64 s.p2, .int .i64 s.p3]
def S.key (s : S) : Value := .agg #[.int .i64 s.port, .int .i64 s.p0, .int .i64 s.p1, .int .i64 s.p2, .int .i64 s.p3]
theorem S.key_inj {x y : S} (h : x.key = y.key) : x = y := by
  obtain ⟨a, b, c, d, e⟩ := x
  obtain ⟨a', b', c', d', e'⟩ := y
  unfold S.key at h
  injection h with h
  simp at h
  obtain ⟨rfl, rfl, rfl, rfl, rfl⟩ := h
  rfl
theorem S.den (s : S) : denL s.av = s.vs := rfl
def ptop (f : Int) : Int := if f = 2 then 15 else if f = 0 ∨ f = 1 ∨ f = 3 then 255 else 0
def withS (f v : Int) (s : S) : S :=
  if (0 ≤ f ∧ f < 4) ∧ 0 ≤ v ∧ v ≤ ptop f then (if f = 0 then { s with p0 := v } else if f = 1 then { s with p1 := v } else if f = 2 then { s with p2 := v } else { s with p3 := v }) else s
def put (f v : Int) (s : S) : S := if f = 4 then { s with port := v } else withS f v s
def cmpI (a b : Int) : Int := if a < b then -1 else if b < a then 1 else 0
def cmpS (x y : S) : Int :=
  if cmpI x.port y.port ≠ 0 then cmpI x.port y.port else if cmpI x.p0 y.p0 ≠ 0 then cmpI x.p0 y.p0 else if cmpI x.p1 y.p1 ≠ 0 then cmpI x.p1 y.p1 else if cmpI x.p2 y.p2 ≠ 0 then cmpI x.p2 y.p2 else cmpI x.p3 y.p3
def ahead (x y : S) : Prop := x.port < y.port ∨ x.port = y.port ∧ (x.p0 < y.p0 ∨ x.p0 = y.p0 ∧ (x.p1 < y.p1 ∨ x.p1 = y.p1 ∧ (x.p2 < y.p2 ∨ x.p2 = y.p2 ∧ x.p3 < y.p3)))
instance (x y : S) : Decidable (ahead x y) := by unfold ahead; infer_instance
theorem cmpI_lt (a b : Int) : cmpI a b < 0 ↔ a < b := by unfold cmpI; split <;> first | omega | (split <;> omega)
theorem cmpI_0 (a b : Int) : cmpI a b = 0 ↔ a = b := by unfold cmpI; split <;> first | omega | (split <;> omega)
theorem cmpS_lt (x y : S) : cmpS x y < 0 ↔ ahead x y := by
  unfold cmpS ahead
  have h1 := cmpI_lt x.port y.port
  have h2 := cmpI_0 x.port y.port
  have h3 := cmpI_lt x.p0 y.p0
  have h4 := cmpI_0 x.p0 y.p0
  have h5 := cmpI_lt x.p1 y.p1
  have h6 := cmpI_0 x.p1 y.p1
  have h7 := cmpI_lt x.p2 y.p2
  have h8 := cmpI_0 x.p2 y.p2
  have h9 := cmpI_lt x.p3 y.p3
  repeat' split
  all_goals omega
theorem ahead_irrefl (x : S) : ¬ ahead x x := by unfold ahead; omega
theorem ahead_trans {x y z : S} (h : ahead x y) (k : ahead y z) : ahead x z := by unfold ahead at *; omega
theorem ahead_or {x y : S} (h : ¬ ahead x y) (k : ¬ ahead y x) : x = y := by
  obtain ⟨a, b, c, d, e⟩ := x
  obtain ⟨a', b', c', d', e'⟩ := y
  unfold ahead at *
  simp only at h k
  simp only [S.mk.injEq]
  omega
abbrev Rising (l : List S) : Prop := l.Pairwise ahead
theorem rising_eq : ∀ {a b : List S}, Rising a → Rising b → (∀ t, t ∈ a ↔ t ∈ b) → a = b
  | [], [], _, _, _ => rfl
  | [], y :: b, _, _, h => by have := (h y).2 (by simp); cases this
  | x :: a, [], _, _, h => by have := (h x).1 (by simp); cases this
  | x :: a, y :: b, ha, hb, h => by
    have ha' := List.pairwise_cons.1 ha
    have hb' := List.pairwise_cons.1 hb
    have hxy : x = y := by
      have h1 := (h x).1 (by simp)
      have h2 := (h y).2 (by simp)
      rcases List.mem_cons.1 h1 with h1 | h1
      · exact h1
      · rcases List.mem_cons.1 h2 with h2 | h2
        · exact h2.symm
        · exact absurd (ahead_trans (hb'.1 x h1) (ha'.1 y h2)) (ahead_irrefl y)
    subst hxy
    congr 1
    refine rising_eq ha'.2 hb'.2 fun t => ?_
    have ht := h t
    simp only [List.mem_cons] at ht
    constructor
    · intro hta
      rcases ht.1 (.inr hta) with rfl | h1
      · exact absurd (ha'.1 t hta) (ahead_irrefl t)
      · exact h1
    · intro htb
      rcases ht.2 (.inr htb) with rfl | h1
      · exact absurd (hb'.1 t htb) (ahead_irrefl t)
      · exact h1
def ins (s : S) : List S → List S
  | [] => [s]
  | x :: l => if x = s then x :: l else if ahead s x then s :: x :: l else x :: ins s l
theorem mem_ins (s t : S) (l : List S) : t ∈ ins s l ↔ t = s ∨ t ∈ l := by
  induction l with
  | nil => simp [ins]
  | cons x l ih =>
    unfold ins
    split
    · rename_i h
      subst h
      simp
    · split
      · simp
      · simp only [List.mem_cons, ih]
        constructor
        · rintro (h | h | h) <;> simp [h]
        · rintro (h | h | h) <;> simp [h]
theorem ins_rising (s : S) {l : List S} (h : Rising l) : Rising (ins s l) := by
  induction l with
  | nil => simp [ins]
  | cons x l ih =>
    have h' := List.pairwise_cons.1 h
    unfold ins
    split
    · exact h
    · rename_i hne
      split
      · rename_i ha
        refine List.pairwise_cons.2 ⟨fun t ht => ?_, h⟩
        rcases List.mem_cons.1 ht with rfl | ht
        · exact ha
        · exact ahead_trans ha (h'.1 t ht)
      · rename_i ha
        refine List.pairwise_cons.2 ⟨fun t ht => ?_, ih h'.2⟩
        rcases (mem_ins s t l).1 ht with rfl | ht
        · exact Classical.byContradiction fun hn => hne (ahead_or hn ha)
        · exact h'.1 t ht
def both (a b : List S) : List S := b.foldl (fun acc s => ins s acc) a
theorem mem_both (t : S) : ∀ (b a : List S), t ∈ both a b ↔ t ∈ a ∨ t ∈ b
  | [], a => by simp [both]
  | x :: b, a => by
    have := mem_both t b (ins x a)
    unfold both at *
    rw [List.foldl_cons, this, mem_ins, List.mem_cons]
    constructor
    · rintro ((h | h) | h) <;> simp [h]
    · rintro (h | h | h) <;> simp [h]
theorem both_rising : ∀ (b : List S) {a : List S}, Rising a → Rising (both a b)
  | [], a, h => h
  | x :: b, a, h => both_rising b (ins_rising x h)
mutual
def runs (sw : Int) : T → S → List S
  | .mk k p f v l, s => if k = 1 then (if Pd.hits (s.at_ sw) p = true then [s] else []) else if k = 2 then [put f v s] else if k = 3 then runsQ sw l [s] else if k = 4 then runsU sw l s [] else if k = 5 then (if Pd.hits (s.at_ sw) p = true then runsA sw l s else runsB sw l s) else []
def runsQ (sw : Int) : List T → List S → List S
  | [], out => out
  | y :: l, out => runsQ sw l (out.foldl (fun next t => both next (runs sw y t)) [])
def runsU (sw : Int) : List T → S → List S → List S
  | [], _, out => out
  | y :: l, s, out => runsU sw l s (both out (runs sw y s))
def runsA (sw : Int) : List T → S → List S
  | [], _ => []
  | y :: _, s => runs sw y s
def runsB (sw : Int) : List T → S → List S
  | [], _ => []
  | _ :: l, s => runsA sw l s
end
def thenS (sw : Int) (y : T) (out : List S) : List S := out.foldl (fun next t => both next (runs sw y t)) []
theorem mem_fold (sw : Int) (y : T) (t : S) : ∀ (out a : List S), t ∈ out.foldl (fun next t => both next (runs sw y t)) a ↔ t ∈ a ∨ ∃ s ∈ out, t ∈ runs sw y s
  | [], a => by simp
  | x :: out, a => by
    rw [List.foldl_cons, mem_fold sw y t out, mem_both]
    simp only [List.mem_cons, exists_eq_or_imp, or_assoc]
theorem mem_then (sw : Int) (y : T) (t : S) (out : List S) : t ∈ thenS sw y out ↔ ∃ s ∈ out, t ∈ runs sw y s := by unfold thenS; rw [mem_fold]; simp
theorem fold_rising (sw : Int) (y : T) : ∀ (out : List S) {a : List S}, Rising a → Rising (out.foldl (fun next t => both next (runs sw y t)) a)
  | [], a, h => h
  | x :: out, a, h => by rw [List.foldl_cons]; exact fold_rising sw y out (both_rising _ h)
theorem then_rising (sw : Int) (y : T) (out : List S) : Rising (thenS sw y out) := fold_rising sw y out List.Pairwise.nil
theorem runsQ_append (sw : Int) (a b : List T) : ∀ out, runsQ sw (a ++ b) out = runsQ sw b (runsQ sw a out) := by
  induction a with
  | nil => intro out; simp [runsQ]
  | cons y a ih => intro out; rw [List.cons_append, runsQ, runsQ, ih]
theorem runsQ_one (sw : Int) (y : T) (out : List S) : runsQ sw [y] out = thenS sw y out := by rw [runsQ, runsQ]; rfl
theorem runsQ_take (sw : Int) {l : List T} {k : Nat} (h : k < l.length) (out : List S) : runsQ sw (l.take (k + 1)) out = thenS sw l[k] (runsQ sw (l.take k) out) := by
  rw [List.take_add_one, List.getElem?_eq_getElem h, Option.toList_some, runsQ_append, runsQ_one]
theorem runsU_append (sw : Int) (s : S) (a b : List T) : ∀ out, runsU sw (a ++ b) s out = runsU sw b s (runsU sw a s out) := by
  induction a with
  | nil => intro out; simp [runsU]
  | cons y a ih => intro out; rw [List.cons_append, runsU, runsU, ih]
theorem runsU_take (sw : Int) {l : List T} {k : Nat} (h : k < l.length) (s : S) (out : List S) : runsU sw (l.take (k + 1)) s out = both (runsU sw (l.take k) s out) (runs sw l[k] s) := by
  rw [List.take_add_one, List.getElem?_eq_getElem h, Option.toList_some, runsU_append, runsU, runsU]
theorem mem_runsU (sw : Int) (s t : S) : ∀ (l : List T) (out : List S), t ∈ runsU sw l s out ↔ t ∈ out ∨ ∃ y ∈ l, t ∈ runs sw y s
  | [], out => by simp [runsU]
  | y :: l, out => by
    rw [runsU, mem_runsU sw s t l, mem_both]
    simp only [List.mem_cons, exists_eq_or_imp, or_assoc]
theorem runsQ_rising (sw : Int) : ∀ (l : List T) {out : List S}, Rising out → Rising (runsQ sw l out)
  | [], out, h => by rw [runsQ]; exact h
  | y :: l, out, h => by rw [runsQ]; exact runsQ_rising sw l (then_rising sw y out)
theorem runsU_rising (sw : Int) (s : S) : ∀ (l : List T) {out : List S}, Rising out → Rising (runsU sw l s out)
  | [], out, h => by rw [runsU]; exact h
  | y :: l, out, h => by rw [runsU]; exact runsU_rising sw s l (both_rising _ h)
theorem runs_mk (sw k : Int) (p : Pd.T) (f v : Int) (l : List T) (s : S) : runs sw (.mk k p f v l) s = if k = 1 then (if Pd.hits (s.at_ sw) p = true then [s] else []) else if k = 2 then [put f v s] else if k = 3 then runsQ sw l [s] else if k = 4 then runsU sw l s [] else if k = 5 then (if Pd.hits (s.at_ sw) p = true then runsA sw l s else runsB sw l s) else [] := by rw [runs]
theorem runs_rising (sw : Int) (s : S) : ∀ (n : Nat) (x : T), tot x ≤ n → Rising (runs sw x s)
  | 0, x, hn => absurd (tot_pos x) (by omega)
  | n + 1, ⟨k, p, f, v, l⟩, hn => by
    have ih : ∀ y ∈ l, Rising (runs sw y s) := fun y hy => runs_rising sw s n y (by have := tot_lt (k := k) (q := p) (f := f) (v := v) hy; omega)
    rw [runs_mk]
    split
    · split <;> simp
    split
    · simp
    split
    · exact runsQ_rising sw l (by simp)
    split
    · exact runsU_rising sw s l List.Pairwise.nil
    split
    · split
      · cases l with
        | nil => rw [runsA]; exact List.Pairwise.nil
        | cons y l => rw [runsA]; exact ih y (by simp)
      · match l with
        | [] => rw [runsB]; exact List.Pairwise.nil
        | [a] => rw [runsB, runsA]; exact List.Pairwise.nil
        | a :: y :: l => rw [runsB, runsA]; exact ih y (by simp)
    · exact List.Pairwise.nil
end Po
end Go.Proofs.YtngodakgbldlpaaGreatDoor
namespace Go.Sx
set_option linter.unusedVariables false
def Res {α : Type} : Result α → World
  | .ok _ w => w
  | .halt _ w => w
theorem ask_up {α : Type} (a : Ask α) : ∀ w : World, w.drawn ≤ (w.ask a).2.drawn := by
  induction a with
  | done a => intro w; exact Nat.le_refl _
  | ask what range k ih =>
    intro w
    unfold World.ask
    dsimp only
    split
    · exact ih _ _
    · exact Nat.le_trans (Nat.le_succ _) (ih _ { w with drawn := w.drawn + 1 })
theorem sys_up (w : World) (c : Sys) : w.drawn ≤ (w.sys c).2.drawn := by
  unfold World.sys
  have h := ask_up (Kernel.perform c w.os) w
  generalize w.ask (Kernel.perform c w.os) = x at *
  obtain ⟨⟨r, os⟩, w'⟩ := x
  cases r <;> first | exact Nat.le_refl _ | exact h
theorem setCell_up (w : World) (a : Addr) (v : Value) : (w.setCell a v).drawn = w.drawn := rfl
theorem freeze_up (w : World) (a : Addr) (n : Nat) : (w.freeze a n).drawn = w.drawn := by unfold World.freeze; split <;> rfl
theorem viewStore_up {p : Program} {w w' : World} {at_ : Addr} {u : TypeId} {k : Addr} {v : Value} {b : Bool} {l : List Addr} (h : w.viewStore p at_ u k v b = .ok (w', l)) : w'.drawn = w.drawn := by
  unfold World.viewStore at h
  simp only [bind, Except.bind, pure, Except.pure] at h
  repeat' split at h
  all_goals first
    | (cases h; rfl)
    | cases h
theorem farStore_up {p : Program} {w w' : World} {a : Addr} {v : Value} {b : Bool} {l : List Addr} (h : w.farStore p a v b = .ok (w', l)) : w'.drawn = w.drawn := by
  unfold World.farStore at h
  split at h
  · split at h
    · rename_i e
      cases h
      exact viewStore_up e
    · cases h
  · cases h
theorem run_up {α : Type} (p : Program) (s : Sem α) : ∀ w : World, w.drawn ≤ (Res (s.run p w)).drawn := by
  induction s with
  | pure a => intro w; exact Nat.le_refl _
  | load m a k ih =>
    intro w
    unfold Sem.run
    split
    · exact ih _ w
    · split
      · exact ih _ w
      · exact Nat.le_refl _
  | store m a v k ih =>
    intro w
    cases v
    case agg => exact Nat.le_refl _
    case tuple => exact Nat.le_refl _
    all_goals
      simp only [Sem.run]
      split
      · split
        · exact Nat.le_refl _
        · exact Nat.le_trans (Nat.le_of_eq (setCell_up ..).symm) (ih _)
      · split
        · rename_i h
          have := farStore_up h
          rw [← this]
          exact ih _
        · exact Nat.le_refl _
  | new o k ih => intro w; exact ih _ { w with heap := w.heap.push o }
  | shape r k ih => intro w; exact ih _ w
  | freeze a n k ih => intro w; have := ih (w.freeze a n); rw [freeze_up] at this; exact this
  | frozen a k ih => intro w; exact ih _ w
  | getObj r k ih =>
    intro w
    unfold Sem.run
    split <;> first | exact Nat.le_refl _ | exact ih _ w
  | setObj r o k ih =>
    intro w
    unfold Sem.run
    split <;> first | exact Nat.le_refl _ | exact ih { w with heap := w.heap.setIfInBounds r o }
  | choose q k ih =>
    intro w
    unfold Sem.run
    split
    · exact ih _ w
    · exact Nat.le_trans (Nat.le_succ _) (ih _ { w with drawn := w.drawn + 1 })
  | sys c k ih => intro w; exact Nat.le_trans (sys_up w c) (ih _ _)
  | program k ih => intro w; exact ih _ w
  | mark m k ih => intro w; exact ih w
  | halt h => intro w; exact Nat.le_refl _
def upG (n : Nat) : GStep → Prop
  | .go _ w _ => n ≤ w.drawn
  | .comm _ _ _ _ w _ => n ≤ w.drawn
  | .spawn _ _ w _ => n ≤ w.drawn
  | .count _ w _ => n ≤ w.drawn
  | .timer _ _ w _ => n ≤ w.drawn
  | .alone _ _ w _ => n ≤ w.drawn
  | .newcoro _ _ _ w _ => n ≤ w.drawn
  | .coroswitch _ _ _ w _ => n ≤ w.drawn
  | .collect _ w _ => n ≤ w.drawn
  | .watch _ w _ => n ≤ w.drawn
  | .ended .. => True
def upS (n : Nat) : Stepped → Prop
  | .next m => n ≤ m.world.drawn
  | .ended .. => True
theorem upG_after {n : Nat} {es : Array Event} {s : GStep} (h : upG n s) : upG n (GStep.after es s) := by cases s <;> exact h
theorem endWith_up (n : Nat) (w : World) (fd : Nat) (t : ByteArray) (o : Outcome) : upG n (endWith w fd t o) := by
  unfold endWith
  dsimp only
  repeat' split
  all_goals trivial
theorem dieOf_up {n : Nat} {fr : Frame} {l : List ByteArray} {m : String} {b : Bool} {w : World} (h : n ≤ w.drawn) : upG n (dieOf fr l m b w) := h
theorem endThrow_up {n : Nat} {fr : Frame} {m : String} {w : World} (h : n ≤ w.drawn) : upG n (endThrow fr m w) := h
theorem endPrinting_up {n : Nat} {p : Program} {fr : Frame} {v : Value} {w : World} (h : n ≤ w.drawn) : upG n (endPrinting p fr v w) := by
  unfold endPrinting
  dsimp only
  split
  · exact endThrow_up h
  · trivial
theorem ok_up {α : Type} {p : Program} {s : Sem α} {w w' : World} {a : α} {n : Nat} (e : s.run p w = .ok a w') (h : n ≤ w.drawn) : n ≤ w'.drawn := by
  have := run_up p s w
  rw [e] at this
  exact Nat.le_trans h this
theorem halt_up {α : Type} {p : Program} {s : Sem α} {w w' : World} {a : Halt} {n : Nat} (e : s.run p w = .halt a w') (h : n ≤ w.drawn) : n ≤ w'.drawn := by
  have := run_up p s w
  rw [e] at this
  exact Nat.le_trans h this
theorem endFatal_up {n : Nat} {p : Program} {fr : Frame} {cs : List Frame} {d : Option Dying} {m : String} {w : World} (h : n ≤ w.drawn) : upG n (endFatal p fr cs d m w) := by
  unfold endFatal
  dsimp only
  split
  · rename_i e; exact dieOf_up (ok_up e h)
  · trivial
  · trivial
theorem writeOn_up {n : Nat} {p : Program} {fr : Frame} {d : Dying} {f : Fatal} {w : World} (h : n ≤ w.drawn) : upG n (writeOn p fr d f w) := by
  unfold writeOn
  dsimp only
  split
  · trivial
  · simp only [Sem.runT_eq]
    split
    · rename_i e; simp only [Prod.mk.injEq] at e; exact ok_up e.1 h
    · rename_i e; simp only [Prod.mk.injEq] at e; exact halt_up e.1 h
    · trivial
    · trivial
theorem die_up {n : Nat} {p : Program} {fr : Frame} {d : Dying} {w : World} (h : n ≤ w.drawn) : upG n (die p fr d w) := by
  unfold die
  simp only [Sem.runT_eq]
  repeat' split
  all_goals first
    | trivial
    | exact h
    | exact writeOn_up h
    | exact endWith_up _ _ _ _ _
    | (rename_i e; exact ok_up e h)
    | (apply upG_after; repeat' split)
  all_goals first
    | trivial
    | (rename_i e; exact ok_up e h)
    | (rename_i e; exact halt_up e h)
    | (rename_i e; exact endPrinting_up (halt_up e h))
theorem doReturn_up {n : Nat} {p : Program} {b : Bool} {fr : Frame} {cs : List Frame} {d : Option Dying} {v : Value} {w : World} (h : n ≤ w.drawn) : upG n (doReturn p b fr cs d v w) := by
  unfold doReturn
  repeat' split
  all_goals first | trivial | exact h
theorem callDeferred_up {n : Nat} {p : Program} {fr : Frame} {cs : List Frame} {d : Option Dying} {v : Deferred} {w : World} (h : n ≤ w.drawn) : upG n (callDeferred p fr cs d v w) := by
  unfold callDeferred
  simp only [Sem.runT_eq]
  repeat' (first | with_reducible apply upG_after | split)
  all_goals first
    | trivial
    | exact h
    | (apply ok_up (h := h); assumption)
    | (apply halt_up (h := h); assumption)
    | (apply endFatal_up; apply halt_up (h := h); assumption)
    | (apply endThrow_up; apply halt_up (h := h); assumption)
    | (apply endThrow_up; apply ok_up (h := h); assumption)
    | (apply doReturn_up; apply ok_up (h := h); assumption)
    | exact doReturn_up h
    | (refine endPrinting_up ?_; exact h)
theorem unwind_up {n : Nat} {p : Program} {b : Bool} {fr : Frame} {cs : List Frame} {d : Option Dying} {w : World} (h : n ≤ w.drawn) : upG n (unwind p b fr cs d w) := by
  unfold unwind
  simp only [Sem.runT_eq]
  repeat' (first | with_reducible apply upG_after | split)
  all_goals first
    | exact callDeferred_up h
    | first
    | trivial
    | exact h
    | (apply ok_up (h := h); assumption)
    | (apply halt_up (h := h); assumption)
    | (apply endFatal_up; apply halt_up (h := h); assumption)
    | (apply endThrow_up; apply halt_up (h := h); assumption)
    | (apply endThrow_up; apply ok_up (h := h); assumption)
    | (apply doReturn_up; apply ok_up (h := h); assumption)
    | exact doReturn_up h
    | (refine endPrinting_up ?_; exact h)
theorem early_up {n : Nat} {p : Program} {fr : Frame} {cs : List Frame} {d : Option Dying} {g : Nat} {w : World} (h : n ≤ w.drawn) : upG n (early p fr cs d g w) := by
  unfold early
  dsimp only
  repeat' (first | with_reducible apply upG_after | split)
  all_goals first
    | trivial
    | exact h
    | (apply ok_up (h := h); assumption)
    | (apply halt_up (h := h); assumption)
    | (apply endFatal_up; apply halt_up (h := h); assumption)
    | (apply endThrow_up; apply halt_up (h := h); assumption)
    | (apply endThrow_up; apply ok_up (h := h); assumption)
    | (apply doReturn_up; apply ok_up (h := h); assumption)
    | exact doReturn_up h
    | (have h' := ok_up ‹(choose (Question.early g)).run p w = _› h; exact h')
    | (refine endPrinting_up ?_; exact h)
theorem apply_up {n : Nat} {p : Program} {b : Bool} {fr : Frame} {cs : List Frame} {d : Option Dying} {s : Sem Next} {w : World} (h : n ≤ w.drawn) : upG n (stepG.apply p b fr cs d s w) := by
  unfold stepG.apply
  simp only [Sem.runT_eq]
  have hw : ∀ r : Result Next, r = s.run p w → (if b = true then (s.run p w, s.events p w #[]) else (s.run p w, #[])).1 = r := fun r e => by split <;> exact e.symm
  generalize (if b = true then (s.run p w, s.events p w #[]) else (s.run p w, #[])) = x at *
  obtain ⟨r, es⟩ := x
  have hr : r = s.run p w := hw _ rfl
  clear hw
  have hk : ∀ v2 w2, r = .ok v2 w2 → n ≤ w2.drawn := fun v2 w2 e => ok_up (hr.symm.trans e) h
  have hh : ∀ v2 w2, r = .halt v2 w2 → n ≤ w2.drawn := fun v2 w2 e => halt_up (hr.symm.trans e) h
  clear hr
  dsimp only
  with_reducible apply upG_after
  repeat' (first | with_reducible apply upG_after | split)
  all_goals first
    | trivial
    | (apply hh; rfl)
    | (apply hk; rfl)
    | (apply endFatal_up; apply hh; rfl)
    | (apply endThrow_up; apply hh; rfl)
    | (apply endThrow_up; apply hk; rfl)
    | (apply early_up; apply hh; rfl)
    | (apply hh; assumption)
    | (apply hk; assumption)
    | (apply endFatal_up; apply hh; assumption)
    | (apply endThrow_up; apply hh; assumption)
    | (apply endThrow_up; apply hk; assumption)
    | (apply early_up; apply hh; assumption)
theorem oper_up {n : Nat} {p : Program} {b : Bool} {fr : Frame} {cs : List Frame} {d : Option Dying} {w : World} (h : n ≤ w.drawn) : upG n (stepG.oper p b fr cs d w) := by
  unfold stepG.oper
  split
  · trivial
  · split <;> exact apply_up h
theorem elim_up {α : Type} {n : Nat} (o : Option α) {a : GStep} {f : α → GStep} (ha : upG n a) (hf : ∀ x, upG n (f x)) : upG n (o.elim a f) := by
  cases o with
  | none => exact ha
  | some x => exact hf x
theorem exec_up {n : Nat} {p : Program} {main b : Bool} {fr : Frame} {cs : List Frame} {d : Option Dying} {w : World} (h : n ≤ w.drawn) : upG n (stepG.exec p main b fr cs d w) := by
  unfold stepG.exec
  simp only [Sem.runT_eq]
  repeat' (first | with_reducible apply upG_after | split | with_reducible apply elim_up | (intro x))
  all_goals first
    | exact apply_up h
    | exact oper_up h
    | (apply apply_up; apply ok_up (h := h); assumption)
    | first
    | trivial
    | exact h
    | (apply ok_up (h := h); assumption)
    | (apply halt_up (h := h); assumption)
    | (apply endFatal_up; apply halt_up (h := h); assumption)
    | (apply endThrow_up; apply halt_up (h := h); assumption)
    | (apply endThrow_up; apply ok_up (h := h); assumption)
    | (apply doReturn_up; apply ok_up (h := h); assumption)
    | exact doReturn_up h
    | (refine endPrinting_up ?_; exact h)
theorem stepG_up {n : Nat} {p : Program} {main b : Bool} {g : Goroutine} {w : World} (h : n ≤ w.drawn) : upG n (stepG p main g w b) := by
  obtain ⟨fr, callers, status, dying, offers⟩ := g
  simp only [stepG]
  repeat' split
  all_goals first
    | exact die_up h
    | exact exec_up h
    | exact unwind_up h
theorem look_up {n : Nat} {p : Program} {gs : Array Goroutine} {rest : Rest} {w : World} (h : n ≤ w.drawn) : upS n (look p gs rest w) := by
  unfold look
  dsimp only
  repeat' split
  all_goals first
    | trivial
    | (have h' := ok_up ‹Sem.run p _ w = Result.ok _ _› h; exact h')
theorem comm_up {n : Nat} {p : Program} {rest : Rest} {gs : Array Goroutine} {i : Nat} {g : Goroutine} {cs : Array CommCase} {b : Bool} {sh : CommShape} {w : World} (h : n ≤ w.drawn) : upS n (communicate p rest gs i g cs b sh w).1 := by
  unfold communicate
  dsimp only
  split
  · trivial
  split
  · split
    · have hw : ∀ w', waitingAt rest cs w = some w' → n ≤ w'.drawn := fun w' e => by
        unfold waitingAt at e
        split at e
        · split at e
          · cases e; exact h
          · cases e
        · cases e; exact h
      split
      · rename_i e; exact hw _ e
      · trivial
    · exact h
  split
  · trivial
  rename_i e
  have h := ok_up e h
  clear e
  repeat' split
  all_goals first
    | trivial
    | exact h
    | (apply halt_up (h := h); assumption)
    | (have h' := ok_up ‹Sem.run p _ _ = Result.ok _ _› h; exact h')
theorem serve_up {n : Nat} {p : Program} {m : Machine} {k : Nat} (h : n ≤ m.world.drawn) : upS n (serve p m k) := by
  unfold serve
  dsimp only
  repeat' split
  all_goals first | trivial | exact h
theorem drain_up (w : World) (c : Nat) : (drain w c).2.drawn = w.drawn := by
  unfold drain
  split <;> rfl
theorem retime_up (m : Machine) (k : Nat) (t : Timer) (a b : Nat) : (retime m k t a b).2.world.drawn = m.world.drawn := by
  unfold retime
  cases t.chan with
  | none => rfl
  | some c => exact drain_up _ _
theorem named_up {m m' : Machine} {v : Value} {a : Addr} {f : Nat → Timer → Value × Machine} {n : Nat} (hf : ∀ k t, n ≤ (f k t).2.world.drawn) (e : timerOp.named m a f = .ok (v, m')) : n ≤ m'.world.drawn := by
  unfold timerOp.named at e
  split at e
  · have := Except.ok.inj e
    have h := hf ‹Nat› (m.rest.timers.getD ‹Nat› default)
    rw [this] at h
    exact h
  · cases e
theorem timer_up {n : Nat} {m m' : Machine} {op : TimerOp} {v : Value} (h : n ≤ m.world.drawn) (e : timerOp m op = .ok (v, m')) : n ≤ m'.world.drawn := by
  unfold timerOp at e
  split at e
  · split at e
    · cases e; exact h
    · split at e
      · split at e
        · cases e
        · cases e; exact h
      · cases e
  · exact named_up (fun k t => by rw [retime_up]; exact h) e
  · rename_i var when period
    split at e
    · rename_i m2 hm
      have h2 : n ≤ m2.world.drawn := by
        unfold timerOp.opened at hm
        split at hm
        · split at hm
          · cases hm; exact h
          · cases hm
        · cases hm; exact h
      exact named_up (fun k t => by rw [retime_up]; exact h2) e
    · cases e
  · cases e; exact h
theorem runT_up {n : Nat} {p : Program} {m : Machine} {i : Nat} {b : Bool} (h : n ≤ m.world.drawn) : upS n (runT p m i b).1 := by
  unfold runT
  generalize hg : m.gs.swapAt! i { (default : Goroutine) with status := .finished } = gg
  obtain ⟨g, gs⟩ := gg
  dsimp only
  have hs := stepG_up (n := n) (p := p) (main := i == 0) (b := b) (g := g) h
  generalize stepG p (i == 0) g m.world b = s at *
  cases s with
  | ended o w es => trivial
  | comm g cs bl sh w es =>
    have := comm_up (p := p) (rest := m.rest) (gs := gs) (i := i) (g := g) (cs := cs) (b := bl) (sh := sh) (w := w) hs
    dsimp only
    generalize communicate p m.rest gs i g cs bl sh w = x at *
    obtain ⟨a, c⟩ := x
    exact this
  | go g w es => exact hs
  | spawn g c w es => exact hs
  | count g w es =>
    dsimp only
    split
    · trivial
    · exact hs
  | alone g o w es => exact hs
  | collect g w es => exact look_up hs
  | watch g w es => exact hs
  | newcoro g c d w es => exact hs
  | coroswitch g c ex w es =>
    dsimp only
    repeat' split
    all_goals first
      | trivial
      | exact hs
      | skip
    all_goals
      rename_i e
      have := endThrow_up (n := n) (fr := g.frame) (m := "coroswitch on exited coro") (w := w) hs
      rw [e] at this
      exact this
  | timer g op w es =>
    dsimp only
    split
    · rename_i e
      have h' := timer_up (m := { world := w, gs := gs, rest := m.rest }) hs e
      exact h'
    · rename_i msg _
      split
      · rename_i e
        have := endThrow_up (n := n) (fr := g.frame) (m := msg) (w := w) hs
        rw [e] at this
        exact this
      · trivial
    · trivial
    · trivial
def upM (n : Nat) : Move → Prop
  | .goroutine m _ => n ≤ m.world.drawn
  | .machine s _ => upS n s
theorem askOn_up {n : Nat} {p : Program} {m : Machine} (h : n ≤ m.world.drawn) : upM n (askOn p m) := by
  unfold askOn
  dsimp only
  split
  · trivial
  rename_i e
  have h := ok_up e h
  clear e
  split
  · exact serve_up (m := { m with world := _ }) h
  split
  · split
    · exact h
    · split
      · exact h
      · split <;> trivial
  · split
    · split
      · trivial
      · rename_i e
        have h := ok_up e h
        split
        · exact h
        · split
          · trivial
          · rename_i e
            have h' := ok_up e h
            exact h'
    · split
      · trivial
      · rename_i e
        have h := ok_up e h
        clear e
        split
        · trivial
        · rename_i e
          have h := ok_up e h
          split
          · exact h
          · split
            · trivial
            · rename_i e
              have h' := ok_up e h
              exact h'
      · rename_i e
        have h' := ok_up e h
        exact h'
      · rename_i e
        have h := ok_up e h
        clear e
        split
        · trivial
        · rename_i e
          have h := ok_up e h
          split
          · exact h
          · split
            · trivial
            · rename_i e
              have h' := ok_up e h
              exact h'
theorem ask2_up {n : Nat} {p : Program} {m : Machine} (h : n ≤ m.world.drawn) : upM n (ask p m) := by
  unfold ask
  split
  · split
    · trivial
    · rename_i e
      have h1 := look_up (p := p) (gs := m.gs) (rest := m.rest) (ok_up e h)
      split
      · rename_i e2
        rw [e2] at h1
        exact askOn_up h1
      · exact h1
    · rename_i e
      have h1 := ok_up e h
      exact askOn_up (m := { m with world := _ }) h1
  · exact askOn_up h
theorem move_up {n : Nat} {p : Program} {m : Machine} (h : n ≤ m.world.drawn) : upM n (move p m) := by
  unfold move
  repeat' split
  all_goals first
    | trivial
    | exact h
    | exact ask2_up h
theorem step_up {n : Nat} {p : Program} {m : Machine} (h : n ≤ m.world.drawn) : upS n (step p m) := by
  unfold step stepT
  have := move_up (p := p) h
  generalize move p m = x at *
  cases x with
  | goroutine m' i => exact runT_up this
  | machine s o => exact this
theorem runN_up {n : Nat} {p : Program} : ∀ (k : Nat) {m m' : Machine}, n ≤ m.world.drawn → runN p k m = .next m' → n ≤ m'.world.drawn
  | 0, m, m', h, e => by cases e; exact h
  | k + 1, m, m', h, e => by
    unfold runN at e
    have := step_up (p := p) h
    split at e
    · rename_i m2 e2
      rw [e2] at this
      exact runN_up k this e
    · rename_i h2
      exact absurd e (h2 m')
theorem Steps_up {p : Program} {m m' : Machine} (h : Steps p m m') : m.world.drawn ≤ m'.world.drawn := by
  obtain ⟨k, hk⟩ := h
  exact runN_up k (Nat.le_refl _) hk
theorem Calls_up {P : Program} {f : FuncId} {args : Array Value} {w : World} {R : Ending → World → Prop} (h : Calls P f args w R) (hR : ∀ e w', R e w' → ∃ v, e = .returned v) : Calls P f args w fun e w' => R e w' ∧ w.drawn ≤ w'.drawn := fun cs => by
  obtain ⟨e, w', fr, h1, h2, h3, h4⟩ := h cs
  obtain ⟨v, rfl⟩ := hR e w' h1
  exact ⟨_, w', fr, ⟨h1, Steps_up h2⟩, h2, h3, h4⟩
end Go.Sx
