/- A part of the proof. -/
import Derived.Calls
import Derived.Listen
namespace Go.Sx
set_option linter.unusedVariables false
def rP {α:Type}:Result α→World
 | .ok _ w=>w
 | .halt _ w=>w
theorem qy {α:Type} (a:Ask α):∀ w:World,w.drawn≤(w.ask a).2.drawn:=by
 induction a with
 | done a=>intro w;exact Nat.le_refl _
 | ask what range k ih =>
  intro w
  unfold World.ask
  dsimp only
  split
  ·exact ih _ _
  ·exact Nat.le_trans (Nat.le_succ _) (ih _ { w with drawn:=w.drawn+1 })
theorem qe (w:World) (c:Sys):w.drawn≤(w.sys c).2.drawn:=by
 unfold World.sys
 have h:=qy (Kernel.perform c w.os) w
 generalize w.ask (Kernel.perform c w.os)=x at *
 obtain ⟨⟨r,os⟩,w'⟩:=x
 cases r<;>first | exact Nat.le_refl _ | exact h
theorem k9 (w:World) (a:Addr) (v:Value):(w.setCell a v).drawn=w.drawn:=rfl
theorem nU (w:World) (a:Addr) (n:Nat):(w.freeze a n).drawn=w.drawn:=by unfold World.freeze;split<;>rfl
theorem ic {p:Program} {w w':World} {at_:Addr} {u:TypeId} {k:Addr} {v:Value} {b:Bool} {l:List Addr} (h:w.viewStore p at_ u k v b = .ok (w',l)):w'.drawn=w.drawn:=by
 unfold World.viewStore at h
 simp only [bind,Except.bind,pure,Except.pure] at h
 repeat' split at h
 all_goals first
  | (cases h;rfl)
  | cases h
theorem kT {p:Program} {w w':World} {a:Addr} {v:Value} {b:Bool} {l:List Addr} (h:w.farStore p a v b = .ok (w',l)):w'.drawn=w.drawn:=by
 unfold World.farStore at h
 split at h
 ·split at h
  ·rename_i e
   cases h
   exact ic e
  ·cases h
 ·cases h
theorem oO {α:Type} (p:Program) (s:Sem α):∀ w:World,w.drawn≤(rP (s.run p w)).drawn:=by
 induction s with
 | pure a=>intro w;exact Nat.le_refl _
 | load m a k ih =>
  intro w
  unfold Sem.run
  split
  ·exact ih _ w
  ·split
   ·exact ih _ w
   ·exact Nat.le_refl _
 | store m a v k ih =>
  intro w
  cases v
  case agg=>exact Nat.le_refl _
  case tuple=>exact Nat.le_refl _
  all_goals
   simp only [Sem.run]
   split
   ·split
    ·exact Nat.le_refl _
    ·exact Nat.le_trans (Nat.le_of_eq (k9 ..).symm) (ih _)
   ·split
    ·rename_i h
     have:=kT h
     rw [← this]
     exact ih _
    ·exact Nat.le_refl _
 | new o k ih=>intro w;exact ih _ { w with heap:=w.heap.push o }
 | shape r k ih=>intro w;exact ih _ w
 | freeze a n k ih=>intro w;have:=ih (w.freeze a n);rw [nU] at this;exact this
 | frozen a k ih=>intro w;exact ih _ w
 | getObj r k ih =>
  intro w
  unfold Sem.run
  split<;>first | exact Nat.le_refl _ | exact ih _ w
 | setObj r o k ih =>
  intro w
  unfold Sem.run
  split<;>first | exact Nat.le_refl _ | exact ih { w with heap:=w.heap.setIfInBounds r o }
 | choose q k ih =>
  intro w
  unfold Sem.run
  split
  ·exact ih _ w
  ·exact Nat.le_trans (Nat.le_succ _) (ih _ { w with drawn:=w.drawn+1 })
 | sys c k ih=>intro w;exact Nat.le_trans (qe w c) (ih _ _)
 | program k ih=>intro w;exact ih _ w
 | mark m k ih=>intro w;exact ih w
 | halt h=>intro w;exact Nat.le_refl _
def upG (n:Nat):GStep→Prop
 | .go _ w _=>n≤w.drawn
 | .comm _ _ _ _ w _=>n≤w.drawn
 | .spawn _ _ w _=>n≤w.drawn
 | .count _ w _=>n≤w.drawn
 | .timer _ _ w _=>n≤w.drawn
 | .alone _ _ w _=>n≤w.drawn
 | .newcoro _ _ _ w _=>n≤w.drawn
 | .coroswitch _ _ _ w _=>n≤w.drawn
 | .collect _ w _=>n≤w.drawn
 | .watch _ w _=>n≤w.drawn
 | .ended ..=>True
def upS (n:Nat):Stepped→Prop
 | .next m=>n≤m.world.drawn
 | .ended ..=>True
theorem ba {n:Nat} {es:Array Event} {s:GStep} (h:upG n s):upG n (GStep.after es s):=by cases s<;>exact h
theorem li (n:Nat) (w:World) (fd:Nat) (t:ByteArray) (o:Outcome):upG n (endWith w fd t o):=by
 unfold endWith
 dsimp only
 repeat' split
 all_goals trivial
theorem pP {n:Nat} {fr:Frame} {l:List ByteArray} {m:String} {b:Bool} {w:World} (h:n≤w.drawn):upG n (dieOf fr l m b w):=h
theorem aR {n:Nat} {fr:Frame} {m:String} {w:World} (h:n≤w.drawn):upG n (endThrow fr m w):=h
theorem bI {n:Nat} {p:Program} {fr:Frame} {v:Value} {w:World} (h:n≤w.drawn):upG n (endPrinting p fr v w):=by
 unfold endPrinting
 dsimp only
 split
 ·exact aR h
 ·trivial
theorem ag {α:Type} {p:Program} {s:Sem α} {w w':World} {a:α} {n:Nat} (e:s.run p w = .ok a w') (h:n≤w.drawn):n≤w'.drawn:=by
 have:=oO p s w
 rw [e] at this
 exact Nat.le_trans h this
theorem ay {α:Type} {p:Program} {s:Sem α} {w w':World} {a:Halt} {n:Nat} (e:s.run p w = .halt a w') (h:n≤w.drawn):n≤w'.drawn:=by
 have:=oO p s w
 rw [e] at this
 exact Nat.le_trans h this
theorem bU {n:Nat} {p:Program} {fr:Frame} {cs:List Frame} {d:Option Dying} {m:String} {w:World} (h:n≤w.drawn):upG n (endFatal p fr cs d m w):=by
 unfold endFatal
 dsimp only
 split
 ·rename_i e;exact pP (ag e h)
 ·trivial
 ·trivial
theorem ky {n:Nat} {p:Program} {fr:Frame} {d:Dying} {f:Fatal} {w:World} (h:n≤w.drawn):upG n (writeOn p fr d f w):=by
 unfold writeOn
 dsimp only
 split
 ·trivial
 ·simp only [Sem.runT_eq]
  split
  ·rename_i e;simp only [Prod.mk.injEq] at e;exact ag e.1 h
  ·rename_i e;simp only [Prod.mk.injEq] at e;exact ay e.1 h
  ·trivial
  ·trivial
theorem qw {n:Nat} {p:Program} {fr:Frame} {d:Dying} {w:World} (h:n≤w.drawn):upG n (die p fr d w):=by
 unfold die
 simp only [Sem.runT_eq]
 repeat' split
 all_goals first
  | trivial
  | exact h
  | exact ky h
  | exact li _ _ _ _ _
  | (rename_i e;exact ag e h)
  | (apply ba;repeat' split)
 all_goals first
  | trivial
  | (rename_i e;exact ag e h)
  | (rename_i e;exact ay e h)
  | (rename_i e;exact bI (ay e h))
theorem bB {n:Nat} {p:Program} {b:Bool} {fr:Frame} {cs:List Frame} {d:Option Dying} {v:Value} {w:World} (h:n≤w.drawn):upG n (doReturn p b fr cs d v w):=by
 unfold doReturn
 repeat' split
 all_goals first | trivial | exact h
theorem fY {n:Nat} {p:Program} {fr:Frame} {cs:List Frame} {d:Option Dying} {v:Deferred} {w:World} (h:n≤w.drawn):upG n (callDeferred p fr cs d v w):=by
 unfold callDeferred
 simp only [Sem.runT_eq]
 repeat' (first | with_reducible apply ba | split)
 all_goals first
  | trivial
  | exact h
  | (apply ag (h:=h);assumption)
  | (apply ay (h:=h);assumption)
  | (apply bU;apply ay (h:=h);assumption)
  | (apply aR;apply ay (h:=h);assumption)
  | (apply aR;apply ag (h:=h);assumption)
  | (apply bB;apply ag (h:=h);assumption)
  | exact bB h
  | (refine bI ?_;exact h)
theorem mW {n:Nat} {p:Program} {b:Bool} {fr:Frame} {cs:List Frame} {d:Option Dying} {w:World} (h:n≤w.drawn):upG n (unwind p b fr cs d w):=by
 unfold unwind
 simp only [Sem.runT_eq]
 repeat' (first | with_reducible apply ba | split)
 all_goals first
  | exact fY h
  | first
  | trivial
  | exact h
  | (apply ag (h:=h);assumption)
  | (apply ay (h:=h);assumption)
  | (apply bU;apply ay (h:=h);assumption)
  | (apply aR;apply ay (h:=h);assumption)
  | (apply aR;apply ag (h:=h);assumption)
  | (apply bB;apply ag (h:=h);assumption)
  | exact bB h
  | (refine bI ?_;exact h)
theorem kU {n:Nat} {p:Program} {fr:Frame} {cs:List Frame} {d:Option Dying} {g:Nat} {w:World} (h:n≤w.drawn):upG n (early p fr cs d g w):=by
 unfold early
 dsimp only
 repeat' (first | with_reducible apply ba | split)
 all_goals first
  | trivial
  | exact h
  | (apply ag (h:=h);assumption)
  | (apply ay (h:=h);assumption)
  | (apply bU;apply ay (h:=h);assumption)
  | (apply aR;apply ay (h:=h);assumption)
  | (apply aR;apply ag (h:=h);assumption)
  | (apply bB;apply ag (h:=h);assumption)
  | exact bB h
  | (have h':=ag ‹(choose (Question.early g)).run p w=_› h;exact h')
  | (refine bI ?_;exact h)
theorem gh {n:Nat} {p:Program} {b:Bool} {fr:Frame} {cs:List Frame} {d:Option Dying} {s:Sem Next} {w:World} (h:n≤w.drawn):upG n (stepG.apply p b fr cs d s w):=by
 unfold stepG.apply
 simp only [Sem.runT_eq]
 have hw:∀ r:Result Next,r=s.run p w→(if b=true then (s.run p w,s.events p w #[]) else (s.run p w,#[])).1=r:=fun r e=>by split<;>exact e.symm
 generalize (if b=true then (s.run p w,s.events p w #[]) else (s.run p w,#[]))=x at *
 obtain ⟨r,es⟩:=x
 have hr:r=s.run p w:=hw _ rfl
 clear hw
 have hk:∀ v2 w2,r = .ok v2 w2→n≤w2.drawn:=fun v2 w2 e=>ag (hr.symm.trans e) h
 have hh:∀ v2 w2,r = .halt v2 w2→n≤w2.drawn:=fun v2 w2 e=>ay (hr.symm.trans e) h
 clear hr
 dsimp only
 with_reducible apply ba
 repeat' (first | with_reducible apply ba | split)
 all_goals first
  | trivial
  | (apply hh;rfl)
  | (apply hk;rfl)
  | (apply bU;apply hh;rfl)
  | (apply aR;apply hh;rfl)
  | (apply aR;apply hk;rfl)
  | (apply kU;apply hh;rfl)
  | (apply hh;assumption)
  | (apply hk;assumption)
  | (apply bU;apply hh;assumption)
  | (apply aR;apply hh;assumption)
  | (apply aR;apply hk;assumption)
  | (apply kU;apply hh;assumption)
theorem qC {n:Nat} {p:Program} {b:Bool} {fr:Frame} {cs:List Frame} {d:Option Dying} {w:World} (h:n≤w.drawn):upG n (stepG.oper p b fr cs d w):=by
 unfold stepG.oper
 split
 ·trivial
 ·split<;>exact gh h
theorem qR {α:Type} {n:Nat} (o:Option α) {a:GStep} {f:α→GStep} (ha:upG n a) (hf:∀ x,upG n (f x)):upG n (o.elim a f):=by
 cases o with
 | none=>exact ha
 | some x=>exact hf x
theorem qP {n:Nat} {p:Program} {main b:Bool} {fr:Frame} {cs:List Frame} {d:Option Dying} {w:World} (h:n≤w.drawn):upG n (stepG.exec p main b fr cs d w):=by
 unfold stepG.exec
 simp only [Sem.runT_eq]
 repeat' (first | with_reducible apply ba | split | with_reducible apply qR | (intro x))
 all_goals first
  | exact gh h
  | exact qC h
  | (apply gh;apply ag (h:=h);assumption)
  | first
  | trivial
  | exact h
  | (apply ag (h:=h);assumption)
  | (apply ay (h:=h);assumption)
  | (apply bU;apply ay (h:=h);assumption)
  | (apply aR;apply ay (h:=h);assumption)
  | (apply aR;apply ag (h:=h);assumption)
  | (apply bB;apply ag (h:=h);assumption)
  | exact bB h
  | (refine bI ?_;exact h)
theorem oB {n:Nat} {p:Program} {main b:Bool} {g:Goroutine} {w:World} (h:n≤w.drawn):upG n (stepG p main g w b):=by
 obtain ⟨fr,callers,status,dying,offers⟩:=g
 simp only [stepG]
 repeat' split
 all_goals first
  | exact qw h
  | exact qP h
  | exact mW h
theorem mI {n:Nat} {p:Program} {gs:Array Goroutine} {rest:Rest} {w:World} (h:n≤w.drawn):upS n (look p gs rest w):=by
 unfold look
 dsimp only
 repeat' split
 all_goals first
  | trivial
  | (have h':=ag ‹Sem.run p _ w=Result.ok _ _› h;exact h')
theorem qS {n:Nat} {p:Program} {rest:Rest} {gs:Array Goroutine} {i:Nat} {g:Goroutine} {cs:Array CommCase} {b:Bool} {sh:CommShape} {w:World} (h:n≤w.drawn):upS n (communicate p rest gs i g cs b sh w).1:=by
 unfold communicate
 dsimp only
 split
 ·trivial
 split
 ·split
  ·have hw:∀ w',waitingAt rest cs w=some w'→n≤w'.drawn:=fun w' e=>by
    unfold waitingAt at e
    split at e
    ·split at e
     ·cases e;exact h
     ·cases e
    ·cases e;exact h
   split
   ·rename_i e;exact hw _ e
   ·trivial
  ·exact h
 split
 ·trivial
 rename_i e
 have h:=ag e h
 clear e
 repeat' split
 all_goals first
  | trivial
  | exact h
  | (apply ay (h:=h);assumption)
  | (have h':=ag ‹Sem.run p _ _=Result.ok _ _› h;exact h')
theorem oM {n:Nat} {p:Program} {m:Machine} {k:Nat} (h:n≤m.world.drawn):upS n (serve p m k):=by
 unfold serve
 dsimp only
 repeat' split
 all_goals first | trivial | exact h
theorem pN (w:World) (c:Nat):(drain w c).2.drawn=w.drawn:=by
 unfold drain
 split<;>rfl
theorem iA (m:Machine) (k:Nat) (t:Timer) (a b:Nat):(retime m k t a b).2.world.drawn=m.world.drawn:=by
 unfold retime
 cases t.chan with
 | none=>rfl
 | some c=>exact pN _ _
theorem j9 {m m':Machine} {v:Value} {a:Addr} {f:Nat→Timer→Value × Machine} {n:Nat} (hf:∀ k t,n≤(f k t).2.world.drawn) (e:timerOp.named m a f = .ok (v,m')):n≤m'.world.drawn:=by
 unfold timerOp.named at e
 split at e
 ·have:=Except.ok.inj e
  have h:=hf ‹Nat› (m.rest.timers.getD ‹Nat› default)
  rw [this] at h
  exact h
 ·cases e
theorem n9 {n:Nat} {m m':Machine} {op:TimerOp} {v:Value} (h:n≤m.world.drawn) (e:timerOp m op = .ok (v,m')):n≤m'.world.drawn:=by
 unfold timerOp at e
 split at e
 ·split at e
  ·cases e;exact h
  ·split at e
   ·split at e
    ·cases e
    ·cases e;exact h
   ·cases e
 ·exact j9 (fun k t=>by rw [iA];exact h) e
 ·rename_i var when period
  split at e
  ·rename_i m2 hm
   have h2:n≤m2.world.drawn:=by
    unfold timerOp.opened at hm
    split at hm
    ·split at hm
     ·cases hm;exact h
     ·cases hm
    ·cases hm;exact h
   exact j9 (fun k t=>by rw [iA];exact h2) e
  ·cases e
 ·cases e;exact h
theorem runT_up {n:Nat} {p:Program} {m:Machine} {i:Nat} {b:Bool} (h:n≤m.world.drawn):upS n (runT p m i b).1:=by
 unfold runT
 generalize hg:m.gs.swapAt! i { (default:Goroutine) with status:=.finished }=gg
 obtain ⟨g,gs⟩:=gg
 dsimp only
 have hs:=oB (n:=n) (p:=p) (main:=i == 0) (b:=b) (g:=g) h
 generalize stepG p (i == 0) g m.world b=s at *
 cases s with
 | ended o w es=>trivial
 | comm g cs bl sh w es =>
  have:=qS (p:=p) (rest:=m.rest) (gs:=gs) (i:=i) (g:=g) (cs:=cs) (b:=bl) (sh:=sh) (w:=w) hs
  dsimp only
  generalize communicate p m.rest gs i g cs bl sh w=x at *
  obtain ⟨a,c⟩:=x
  exact this
 | go g w es=>exact hs
 | spawn g c w es=>exact hs
 | count g w es =>
  dsimp only
  split
  ·trivial
  ·exact hs
 | alone g o w es=>exact hs
 | collect g w es=>exact mI hs
 | watch g w es=>exact hs
 | newcoro g c d w es=>exact hs
 | coroswitch g c ex w es =>
  dsimp only
  repeat' split
  all_goals first
   | trivial
   | exact hs
   | skip
  all_goals
   rename_i e
   have := aR (n := n) (fr := g.frame) (m := "coroswitch on exited coro") (w := w) hs
   rw [e] at this
   exact this
 | timer g op w es =>
  dsimp only
  split
  ·rename_i e
   have h':=n9 (m:={ world:=w,gs:=gs,rest:=m.rest }) hs e
   exact h'
  ·rename_i msg _
   split
   ·rename_i e
    have:=aR (n:=n) (fr:=g.frame) (m:=msg) (w:=w) hs
    rw [e] at this
    exact this
   ·trivial
  ·trivial
  ·trivial
def upM (n:Nat):Move→Prop
 | .goroutine m _=>n≤m.world.drawn
 | .machine s _=>upS n s
theorem ge {n:Nat} {p:Program} {m:Machine} (h:n≤m.world.drawn):upM n (askOn p m):=by
 unfold askOn
 dsimp only
 split
 ·trivial
 rename_i e
 have h:=ag e h
 clear e
 split
 ·exact oM (m:={ m with world:=_ }) h
 split
 ·split
  ·exact h
  ·split
   ·exact h
   ·split<;>trivial
 ·split
  ·split
   ·trivial
   ·rename_i e
    have h:=ag e h
    split
    ·exact h
    ·split
     ·trivial
     ·rename_i e
      have h':=ag e h
      exact h'
  ·split
   ·trivial
   ·rename_i e
    have h:=ag e h
    clear e
    split
    ·trivial
    ·rename_i e
     have h:=ag e h
     split
     ·exact h
     ·split
      ·trivial
      ·rename_i e
       have h':=ag e h
       exact h'
   ·rename_i e
    have h':=ag e h
    exact h'
   ·rename_i e
    have h:=ag e h
    clear e
    split
    ·trivial
    ·rename_i e
     have h:=ag e h
     split
     ·exact h
     ·split
      ·trivial
      ·rename_i e
       have h':=ag e h
       exact h'
theorem qV {n:Nat} {p:Program} {m:Machine} (h:n≤m.world.drawn):upM n (ask p m):=by
 unfold ask
 split
 ·split
  ·trivial
  ·rename_i e
   have h1:=mI (p:=p) (gs:=m.gs) (rest:=m.rest) (ag e h)
   split
   ·rename_i e2
    rw [e2] at h1
    exact ge h1
   ·exact h1
  ·rename_i e
   have h1:=ag e h
   exact ge (m:={ m with world:=_ }) h1
 ·exact ge h
theorem qH {n:Nat} {p:Program} {m:Machine} (h:n≤m.world.drawn):upM n (move p m):=by
 unfold move
 repeat' split
 all_goals first
  | trivial
  | exact h
  | exact qV h
theorem pq {n:Nat} {p:Program} {m:Machine} (h:n≤m.world.drawn):upS n (step p m):=by
 unfold step stepT
 have:=qH (p:=p) h
 generalize move p m=x at *
 cases x with
 | goroutine m' i=>exact runT_up this
 | machine s o=>exact this
theorem l7 {n:Nat} {p:Program}:∀ (k:Nat) {m m':Machine},n≤m.world.drawn→runN p k m = .next m'→n≤m'.world.drawn
 | 0,m,m',h,e=>by cases e;exact h
 | k+1,m,m',h,e=>by
  unfold runN at e
  have:=pq (p:=p) h
  split at e
  ·rename_i m2 e2
   rw [e2] at this
   exact l7 k this e
  ·rename_i h2
   exact absurd e (h2 m')
theorem pi {p:Program} {m m':Machine} (h:Steps p m m'):m.world.drawn≤m'.world.drawn:=by
 obtain ⟨k,hk⟩:=h
 exact l7 k (Nat.le_refl _) hk
theorem kw {P:Program} {f:FuncId} {args:Array Value} {w:World} {R:Ending→World→Prop} (h:Calls P f args w R) (hR:∀ e w',R e w'→∃ v,e = .returned v):Calls P f args w fun e w'=>R e w'∧w.drawn≤w'.drawn:=fun cs=>by
 obtain ⟨e,w',fr,h1,h2,h3,h4⟩:=h cs
 obtain ⟨v,rfl⟩:=hR e w' h1
 exact ⟨_,w',fr,⟨h1,pi h2⟩,h2,h3,h4⟩
end Go.Sx
