/-
  The count of what was drawn never falls.
-/
import Derived.Calls
import Derived.Listen
namespace Go.Sx
set_option linter.unusedVariables false
def WRes {α : Type} : Result α → World
  | .ok _ w => w
  | .halt _ w => w
theorem ask_up {α : Type} (a : Ask α) : ∀ w : World, w.drawn ≤ (w.ask a).2.drawn := by
  induction a with
  | done a => intro w; exact Nat.le_refl _
  | ask what range k ih =>
    intro w
    unfold World.ask
    dsimp only
    split
    · exact ih _ _
    · exact Nat.le_trans (Nat.le_succ _) (ih _ { w with drawn := w.drawn + 1 })
theorem sys_up (w : World) (c : Sys) : w.drawn ≤ (w.sys c).2.drawn := by
  unfold World.sys
  have h := ask_up (Kernel.perform c w.os) w
  generalize w.ask (Kernel.perform c w.os) = x at *
  obtain ⟨⟨r, os⟩, w'⟩ := x
  cases r <;> first | exact Nat.le_refl _ | exact h
theorem setCell_up (w : World) (a : Addr) (v : Value) : (w.setCell a v).drawn = w.drawn := rfl
theorem freeze_up (w : World) (a : Addr) (n : Nat) : (w.freeze a n).drawn = w.drawn := by unfold World.freeze; split <;> rfl
theorem viewStore_up {p : Program} {w w' : World} {at_ : Addr} {u : TypeId} {k : Addr} {v : Value} {b : Bool} {l : List Addr} (h : w.viewStore p at_ u k v b = .ok (w', l)) : w'.drawn = w.drawn := by
  unfold World.viewStore at h
  simp only [bind, Except.bind, pure, Except.pure] at h
  repeat' split at h
  all_goals first
    | (cases h; rfl)
    | cases h
theorem farStore_up {p : Program} {w w' : World} {a : Addr} {v : Value} {b : Bool} {l : List Addr} (h : w.farStore p a v b = .ok (w', l)) : w'.drawn = w.drawn := by
  unfold World.farStore at h
  split at h
  · split at h
    · rename_i e
      cases h
      exact viewStore_up e
    · cases h
  · cases h
theorem run_up {α : Type} (p : Program) (s : Sem α) : ∀ w : World, w.drawn ≤ (WRes (s.run p w)).drawn := by
  induction s with
  | pure a => intro w; exact Nat.le_refl _
  | load m a k ih =>
    intro w
    unfold Sem.run
    split
    · exact ih _ w
    · split
      · exact ih _ w
      · exact Nat.le_refl _
  | store m a v k ih =>
    intro w
    cases v
    case agg => exact Nat.le_refl _
    case tuple => exact Nat.le_refl _
    all_goals
      simp only [Sem.run]
      split
      · split
        · exact Nat.le_refl _
        · exact Nat.le_trans (Nat.le_of_eq (setCell_up ..).symm) (ih _)
      · split
        · rename_i h
          have := farStore_up h
          rw [← this]
          exact ih _
        · exact Nat.le_refl _
  | new o k ih => intro w; exact ih _ { w with heap := w.heap.push o }
  | shape r k ih => intro w; exact ih _ w
  | freeze a n k ih => intro w; have := ih (w.freeze a n); rw [freeze_up] at this; exact this
  | frozen a k ih => intro w; exact ih _ w
  | getObj r k ih =>
    intro w
    unfold Sem.run
    split <;> first | exact Nat.le_refl _ | exact ih _ w
  | setObj r o k ih =>
    intro w
    unfold Sem.run
    split <;> first | exact Nat.le_refl _ | exact ih { w with heap := w.heap.setIfInBounds r o }
  | choose q k ih =>
    intro w
    unfold Sem.run
    split
    · exact ih _ w
    · exact Nat.le_trans (Nat.le_succ _) (ih _ { w with drawn := w.drawn + 1 })
  | sys c k ih => intro w; exact Nat.le_trans (sys_up w c) (ih _ _)
  | program k ih => intro w; exact ih _ w
  | mark m k ih => intro w; exact ih w
  | halt h => intro w; exact Nat.le_refl _
def upG (n : Nat) : GStep → Prop
  | .go _ w _ => n ≤ w.drawn
  | .comm _ _ _ _ w _ => n ≤ w.drawn
  | .spawn _ _ w _ => n ≤ w.drawn
  | .count _ w _ => n ≤ w.drawn
  | .timer _ _ w _ => n ≤ w.drawn
  | .alone _ _ w _ => n ≤ w.drawn
  | .newcoro _ _ _ w _ => n ≤ w.drawn
  | .coroswitch _ _ _ w _ => n ≤ w.drawn
  | .collect _ w _ => n ≤ w.drawn
  | .watch _ w _ => n ≤ w.drawn
  | .ended .. => True
def upS (n : Nat) : Stepped → Prop
  | .next m => n ≤ m.world.drawn
  | .ended .. => True
theorem upG_after {n : Nat} {es : Array Event} {s : GStep} (h : upG n s) : upG n (GStep.after es s) := by cases s <;> exact h
theorem endWith_up (n : Nat) (w : World) (fd : Nat) (t : ByteArray) (o : Outcome) : upG n (endWith w fd t o) := by
  unfold endWith
  dsimp only
  repeat' split
  all_goals trivial
theorem dieOf_up {n : Nat} {fr : Frame} {l : List ByteArray} {m : String} {b : Bool} {w : World} (h : n ≤ w.drawn) : upG n (dieOf fr l m b w) := h
theorem endThrow_up {n : Nat} {fr : Frame} {m : String} {w : World} (h : n ≤ w.drawn) : upG n (endThrow fr m w) := h
theorem endPrinting_up {n : Nat} {p : Program} {fr : Frame} {v : Value} {w : World} (h : n ≤ w.drawn) : upG n (endPrinting p fr v w) := by
  unfold endPrinting
  dsimp only
  split
  · exact endThrow_up h
  · trivial
theorem ok_up {α : Type} {p : Program} {s : Sem α} {w w' : World} {a : α} {n : Nat} (e : s.run p w = .ok a w') (h : n ≤ w.drawn) : n ≤ w'.drawn := by
  have := run_up p s w
  rw [e] at this
  exact Nat.le_trans h this
theorem halt_up {α : Type} {p : Program} {s : Sem α} {w w' : World} {a : Halt} {n : Nat} (e : s.run p w = .halt a w') (h : n ≤ w.drawn) : n ≤ w'.drawn := by
  have := run_up p s w
  rw [e] at this
  exact Nat.le_trans h this
theorem endFatal_up {n : Nat} {p : Program} {fr : Frame} {cs : List Frame} {d : Option Dying} {m : String} {w : World} (h : n ≤ w.drawn) : upG n (endFatal p fr cs d m w) := by
  unfold endFatal
  dsimp only
  split
  · rename_i e; exact dieOf_up (ok_up e h)
  · trivial
  · trivial
theorem writeOn_up {n : Nat} {p : Program} {fr : Frame} {d : Dying} {f : Fatal} {w : World} (h : n ≤ w.drawn) : upG n (writeOn p fr d f w) := by
  unfold writeOn
  dsimp only
  split
  · trivial
  · simp only [Sem.runT_eq]
    split
    · rename_i e; simp only [Prod.mk.injEq] at e; exact ok_up e.1 h
    · rename_i e; simp only [Prod.mk.injEq] at e; exact halt_up e.1 h
    · trivial
    · trivial
theorem die_up {n : Nat} {p : Program} {fr : Frame} {d : Dying} {w : World} (h : n ≤ w.drawn) : upG n (die p fr d w) := by
  unfold die
  simp only [Sem.runT_eq]
  repeat' split
  all_goals first
    | trivial
    | exact h
    | exact writeOn_up h
    | exact endWith_up _ _ _ _ _
    | (rename_i e; exact ok_up e h)
    | (apply upG_after; repeat' split)
  all_goals first
    | trivial
    | (rename_i e; exact ok_up e h)
    | (rename_i e; exact halt_up e h)
    | (rename_i e; exact endPrinting_up (halt_up e h))
theorem doReturn_up {n : Nat} {p : Program} {b : Bool} {fr : Frame} {cs : List Frame} {d : Option Dying} {v : Value} {w : World} (h : n ≤ w.drawn) : upG n (doReturn p b fr cs d v w) := by
  unfold doReturn
  repeat' split
  all_goals first | trivial | exact h
theorem callDeferred_up {n : Nat} {p : Program} {fr : Frame} {cs : List Frame} {d : Option Dying} {v : Deferred} {w : World} (h : n ≤ w.drawn) : upG n (callDeferred p fr cs d v w) := by
  unfold callDeferred
  simp only [Sem.runT_eq]
  repeat' (first | with_reducible apply upG_after | split)
  all_goals first
    | trivial
    | exact h
    | (apply ok_up (h := h); assumption)
    | (apply halt_up (h := h); assumption)
    | (apply endFatal_up; apply halt_up (h := h); assumption)
    | (apply endThrow_up; apply halt_up (h := h); assumption)
    | (apply endThrow_up; apply ok_up (h := h); assumption)
    | (apply doReturn_up; apply ok_up (h := h); assumption)
    | exact doReturn_up h
    | (refine endPrinting_up ?_; exact h)
theorem unwind_up {n : Nat} {p : Program} {b : Bool} {fr : Frame} {cs : List Frame} {d : Option Dying} {w : World} (h : n ≤ w.drawn) : upG n (unwind p b fr cs d w) := by
  unfold unwind
  simp only [Sem.runT_eq]
  repeat' (first | with_reducible apply upG_after | split)
  all_goals first
    | exact callDeferred_up h
    | first
    | trivial
    | exact h
    | (apply ok_up (h := h); assumption)
    | (apply halt_up (h := h); assumption)
    | (apply endFatal_up; apply halt_up (h := h); assumption)
    | (apply endThrow_up; apply halt_up (h := h); assumption)
    | (apply endThrow_up; apply ok_up (h := h); assumption)
    | (apply doReturn_up; apply ok_up (h := h); assumption)
    | exact doReturn_up h
    | (refine endPrinting_up ?_; exact h)
theorem early_up {n : Nat} {p : Program} {fr : Frame} {cs : List Frame} {d : Option Dying} {g : Nat} {w : World} (h : n ≤ w.drawn) : upG n (early p fr cs d g w) := by
  unfold early
  dsimp only
  repeat' (first | with_reducible apply upG_after | split)
  all_goals first
    | trivial
    | exact h
    | (apply ok_up (h := h); assumption)
    | (apply halt_up (h := h); assumption)
    | (apply endFatal_up; apply halt_up (h := h); assumption)
    | (apply endThrow_up; apply halt_up (h := h); assumption)
    | (apply endThrow_up; apply ok_up (h := h); assumption)
    | (apply doReturn_up; apply ok_up (h := h); assumption)
    | exact doReturn_up h
    | (have h' := ok_up ‹(choose (Question.early g)).run p w = _› h; exact h')
    | (refine endPrinting_up ?_; exact h)
theorem apply_up {n : Nat} {p : Program} {b : Bool} {fr : Frame} {cs : List Frame} {d : Option Dying} {s : Sem Next} {w : World} (h : n ≤ w.drawn) : upG n (stepG.apply p b fr cs d s w) := by
  unfold stepG.apply
  simp only [Sem.runT_eq]
  have hw : ∀ r : Result Next, r = s.run p w → (if b = true then (s.run p w, s.events p w #[]) else (s.run p w, #[])).1 = r := fun r e => by split <;> exact e.symm
  generalize (if b = true then (s.run p w, s.events p w #[]) else (s.run p w, #[])) = x at *
  obtain ⟨r, es⟩ := x
  have hr : r = s.run p w := hw _ rfl
  clear hw
  have hk : ∀ v2 w2, r = .ok v2 w2 → n ≤ w2.drawn := fun v2 w2 e => ok_up (hr.symm.trans e) h
  have hh : ∀ v2 w2, r = .halt v2 w2 → n ≤ w2.drawn := fun v2 w2 e => halt_up (hr.symm.trans e) h
  clear hr
  dsimp only
  with_reducible apply upG_after
  repeat' (first | with_reducible apply upG_after | split)
  all_goals first
    | trivial
    | (apply hh; rfl)
    | (apply hk; rfl)
    | (apply endFatal_up; apply hh; rfl)
    | (apply endThrow_up; apply hh; rfl)
    | (apply endThrow_up; apply hk; rfl)
    | (apply early_up; apply hh; rfl)
    | (apply hh; assumption)
    | (apply hk; assumption)
    | (apply endFatal_up; apply hh; assumption)
    | (apply endThrow_up; apply hh; assumption)
    | (apply endThrow_up; apply hk; assumption)
    | (apply early_up; apply hh; assumption)
theorem oper_up {n : Nat} {p : Program} {b : Bool} {fr : Frame} {cs : List Frame} {d : Option Dying} {w : World} (h : n ≤ w.drawn) : upG n (stepG.oper p b fr cs d w) := by
  unfold stepG.oper
  split
  · trivial
  · split <;> exact apply_up h
theorem elim_up {α : Type} {n : Nat} (o : Option α) {a : GStep} {f : α → GStep} (ha : upG n a) (hf : ∀ x, upG n (f x)) : upG n (o.elim a f) := by
  cases o with
  | none => exact ha
  | some x => exact hf x
theorem exec_up {n : Nat} {p : Program} {main b : Bool} {fr : Frame} {cs : List Frame} {d : Option Dying} {w : World} (h : n ≤ w.drawn) : upG n (stepG.exec p main b fr cs d w) := by
  unfold stepG.exec
  simp only [Sem.runT_eq]
  repeat' (first | with_reducible apply upG_after | split | with_reducible apply elim_up | (intro x))
  all_goals first
    | exact apply_up h
    | exact oper_up h
    | (apply apply_up; apply ok_up (h := h); assumption)
    | first
    | trivial
    | exact h
    | (apply ok_up (h := h); assumption)
    | (apply halt_up (h := h); assumption)
    | (apply endFatal_up; apply halt_up (h := h); assumption)
    | (apply endThrow_up; apply halt_up (h := h); assumption)
    | (apply endThrow_up; apply ok_up (h := h); assumption)
    | (apply doReturn_up; apply ok_up (h := h); assumption)
    | exact doReturn_up h
    | (refine endPrinting_up ?_; exact h)
theorem stepG_up {n : Nat} {p : Program} {main b : Bool} {g : Goroutine} {w : World} (h : n ≤ w.drawn) : upG n (stepG p main g w b) := by
  obtain ⟨fr, callers, status, dying, offers⟩ := g
  simp only [stepG]
  repeat' split
  all_goals first
    | exact die_up h
    | exact exec_up h
    | exact unwind_up h
theorem look_up {n : Nat} {p : Program} {gs : Array Goroutine} {rest : Rest} {w : World} (h : n ≤ w.drawn) : upS n (look p gs rest w) := by
  unfold look
  dsimp only
  repeat' split
  all_goals first
    | trivial
    | (have h' := ok_up ‹Sem.run p _ w = Result.ok _ _› h; exact h')
theorem comm_up {n : Nat} {p : Program} {rest : Rest} {gs : Array Goroutine} {i : Nat} {g : Goroutine} {cs : Array CommCase} {b : Bool} {sh : CommShape} {w : World} (h : n ≤ w.drawn) : upS n (communicate p rest gs i g cs b sh w).1 := by
  unfold communicate
  dsimp only
  split
  · trivial
  split
  · split
    · have hw : ∀ w', waitingAt rest cs w = some w' → n ≤ w'.drawn := fun w' e => by
        unfold waitingAt at e
        split at e
        · split at e
          · cases e; exact h
          · cases e
        · cases e; exact h
      split
      · rename_i e; exact hw _ e
      · trivial
    · exact h
  split
  · trivial
  rename_i e
  have h := ok_up e h
  clear e
  repeat' split
  all_goals first
    | trivial
    | exact h
    | (apply halt_up (h := h); assumption)
    | (have h' := ok_up ‹Sem.run p _ _ = Result.ok _ _› h; exact h')
theorem serve_up {n : Nat} {p : Program} {m : Machine} {k : Nat} (h : n ≤ m.world.drawn) : upS n (serve p m k) := by
  unfold serve
  dsimp only
  repeat' split
  all_goals first | trivial | exact h
theorem drain_up (w : World) (c : Nat) : (drain w c).2.drawn = w.drawn := by
  unfold drain
  split <;> rfl
theorem retime_up (m : Machine) (k : Nat) (t : Timer) (a b : Nat) : (retime m k t a b).2.world.drawn = m.world.drawn := by
  unfold retime
  cases t.chan with
  | none => rfl
  | some c => exact drain_up _ _
theorem named_up {m m' : Machine} {v : Value} {a : Addr} {f : Nat → Timer → Value × Machine} {n : Nat} (hf : ∀ k t, n ≤ (f k t).2.world.drawn) (e : timerOp.named m a f = .ok (v, m')) : n ≤ m'.world.drawn := by
  unfold timerOp.named at e
  split at e
  · have := Except.ok.inj e
    have h := hf ‹Nat› (m.rest.timers.getD ‹Nat› default)
    rw [this] at h
    exact h
  · cases e
theorem timer_up {n : Nat} {m m' : Machine} {op : TimerOp} {v : Value} (h : n ≤ m.world.drawn) (e : timerOp m op = .ok (v, m')) : n ≤ m'.world.drawn := by
  unfold timerOp at e
  split at e
  · split at e
    · cases e; exact h
    · split at e
      · split at e
        · cases e
        · cases e; exact h
      · cases e
  · exact named_up (fun k t => by rw [retime_up]; exact h) e
  · rename_i var when period
    split at e
    · rename_i m2 hm
      have h2 : n ≤ m2.world.drawn := by
        unfold timerOp.opened at hm
        split at hm
        · split at hm
          · cases hm; exact h
          · cases hm
        · cases hm; exact h
      exact named_up (fun k t => by rw [retime_up]; exact h2) e
    · cases e
  · cases e; exact h
theorem runT_up {n : Nat} {p : Program} {m : Machine} {i : Nat} {b : Bool} (h : n ≤ m.world.drawn) : upS n (runT p m i b).1 := by
  unfold runT
  generalize hg : m.gs.swapAt! i { (default : Goroutine) with status := .finished } = gg
  obtain ⟨g, gs⟩ := gg
  dsimp only
  have hs := stepG_up (n := n) (p := p) (main := i == 0) (b := b) (g := g) h
  generalize stepG p (i == 0) g m.world b = s at *
  cases s with
  | ended o w es => trivial
  | comm g cs bl sh w es =>
    have := comm_up (p := p) (rest := m.rest) (gs := gs) (i := i) (g := g) (cs := cs) (b := bl) (sh := sh) (w := w) hs
    dsimp only
    generalize communicate p m.rest gs i g cs bl sh w = x at *
    obtain ⟨a, c⟩ := x
    exact this
  | go g w es => exact hs
  | spawn g c w es => exact hs
  | count g w es =>
    dsimp only
    split
    · trivial
    · exact hs
  | alone g o w es => exact hs
  | collect g w es => exact look_up hs
  | watch g w es => exact hs
  | newcoro g c d w es => exact hs
  | coroswitch g c ex w es =>
    dsimp only
    repeat' split
    all_goals first
      | trivial
      | exact hs
      | skip
    all_goals
      rename_i e
      have := endThrow_up (n := n) (fr := g.frame) (m := "coroswitch on exited coro") (w := w) hs
      rw [e] at this
      exact this
  | timer g op w es =>
    dsimp only
    split
    · rename_i e
      have h' := timer_up (m := { world := w, gs := gs, rest := m.rest }) hs e
      exact h'
    · rename_i msg _
      split
      · rename_i e
        have := endThrow_up (n := n) (fr := g.frame) (m := msg) (w := w) hs
        rw [e] at this
        exact this
      · trivial
    · trivial
    · trivial
def upM (n : Nat) : Move → Prop
  | .goroutine m _ => n ≤ m.world.drawn
  | .machine s _ => upS n s
theorem askOn_up {n : Nat} {p : Program} {m : Machine} (h : n ≤ m.world.drawn) : upM n (askOn p m) := by
  unfold askOn
  dsimp only
  split
  · trivial
  rename_i e
  have h := ok_up e h
  clear e
  split
  · exact serve_up (m := { m with world := _ }) h
  split
  · split
    · exact h
    · split
      · exact h
      · split <;> trivial
  · split
    · split
      · trivial
      · rename_i e
        have h := ok_up e h
        split
        · exact h
        · split
          · trivial
          · rename_i e
            have h' := ok_up e h
            exact h'
    · split
      · trivial
      · rename_i e
        have h := ok_up e h
        clear e
        split
        · trivial
        · rename_i e
          have h := ok_up e h
          split
          · exact h
          · split
            · trivial
            · rename_i e
              have h' := ok_up e h
              exact h'
      · rename_i e
        have h' := ok_up e h
        exact h'
      · rename_i e
        have h := ok_up e h
        clear e
        split
        · trivial
        · rename_i e
          have h := ok_up e h
          split
          · exact h
          · split
            · trivial
            · rename_i e
              have h' := ok_up e h
              exact h'
theorem ask2_up {n : Nat} {p : Program} {m : Machine} (h : n ≤ m.world.drawn) : upM n (ask p m) := by
  unfold ask
  split
  · split
    · trivial
    · rename_i e
      have h1 := look_up (p := p) (gs := m.gs) (rest := m.rest) (ok_up e h)
      split
      · rename_i e2
        rw [e2] at h1
        exact askOn_up h1
      · exact h1
    · rename_i e
      have h1 := ok_up e h
      exact askOn_up (m := { m with world := _ }) h1
  · exact askOn_up h
theorem move_up {n : Nat} {p : Program} {m : Machine} (h : n ≤ m.world.drawn) : upM n (move p m) := by
  unfold move
  repeat' split
  all_goals first
    | trivial
    | exact h
    | exact ask2_up h
theorem step_up {n : Nat} {p : Program} {m : Machine} (h : n ≤ m.world.drawn) : upS n (step p m) := by
  unfold step stepT
  have := move_up (p := p) h
  generalize move p m = x at *
  cases x with
  | goroutine m' i => exact runT_up this
  | machine s o => exact this
theorem runN_up {n : Nat} {p : Program} : ∀ (k : Nat) {m m' : Machine}, n ≤ m.world.drawn → runN p k m = .next m' → n ≤ m'.world.drawn
  | 0, m, m', h, e => by cases e; exact h
  | k + 1, m, m', h, e => by
    unfold runN at e
    have := step_up (p := p) h
    split at e
    · rename_i m2 e2
      rw [e2] at this
      exact runN_up k this e
    · rename_i h2
      exact absurd e (h2 m')
theorem Steps_up {p : Program} {m m' : Machine} (h : Steps p m m') : m.world.drawn ≤ m'.world.drawn := by
  obtain ⟨k, hk⟩ := h
  exact runN_up k (Nat.le_refl _) hk
/-- A call that returns has not let the count fall. -/
theorem Calls_up {P : Program} {f : FuncId} {args : Array Value} {w : World} {R : Ending → World → Prop} (h : Calls P f args w R) (hR : ∀ e w', R e w' → ∃ v, e = .returned v) : Calls P f args w fun e w' => R e w' ∧ w.drawn ≤ w'.drawn := fun cs => by
  obtain ⟨e, w', fr, h1, h2, h3, h4⟩ := h cs
  obtain ⟨v, rfl⟩ := hR e w' h1
  exact ⟨_, w', fr, ⟨h1, Steps_up h2⟩, h2, h3, h4⟩
end Go.Sx


