import Derived.Calls
import Derived.Listen
import Derived.Test.YtmehinfgdcmmjaaGreatJ1
import Derived.Test.YtmehinfgdcmmjaaGreatJ8
import Derived.Sort.Grow
import Derived.Test.YtmehinfgdcmmjaaGreatJ5
import Derived.Sort.OwnSortedInts
import Derived.Lib.SlicesCompact
import Derived.Test.YtmehinfgdcmmjaaGreatSxC
namespace Go.Sx
set_option linter.unusedVariables false
def ry {α:Type}:Result α→World
 | .ok _ w=>w
 | .halt _ w=>w
theorem rT {α:Type} (a:Ask α):∀ w:World,w.drawn≤(w.ask a).2.drawn:=by
 induction a with
 | done a=>intro w;exact Nat.le_refl _
 | ask what range k ih =>
  intro w
  unfold World.ask
  dsimp only
  split
  ·exact ih _ _
  ·exact Nat.le_trans (Nat.le_succ _) (ih _ { w with drawn:=w.drawn+1 })
theorem rC (w:World) (c:Sys):w.drawn≤(w.sys c).2.drawn:=by
 unfold World.sys
 have h:=rT (Kernel.perform c w.os) w
 generalize w.ask (Kernel.perform c w.os)=x at *
 obtain ⟨⟨r,os⟩,w'⟩:=x
 cases r<;>first | exact Nat.le_refl _ | exact h
theorem lN (w:World) (a:Addr) (v:Value):(w.setCell a v).drawn=w.drawn:=rfl
theorem nn (w:World) (a:Addr) (n:Nat):(w.freeze a n).drawn=w.drawn:=by unfold World.freeze;split<;>rfl
theorem jE {p:Program} {w w':World} {at_:Addr} {u:TypeId} {k:Addr} {v:Value} {b:Bool} {l:List Addr} (h:w.viewStore p at_ u k v b = .ok (w',l)):w'.drawn=w.drawn:=by
 unfold World.viewStore at h
 simp only [bind,Except.bind,pure,Except.pure] at h
 repeat' split at h
 all_goals first
  | (cases h;rfl)
  | cases h
theorem kj {p:Program} {w w':World} {a:Addr} {v:Value} {b:Bool} {l:List Addr} (h:w.farStore p a v b = .ok (w',l)):w'.drawn=w.drawn:=by
 unfold World.farStore at h
 split at h
 ·split at h
  ·rename_i e
   cases h
   exact jE e
  ·cases h
 ·cases h
theorem oc {α:Type} (p:Program) (s:Sem α):∀ w:World,w.drawn≤(ry (s.run p w)).drawn:=by
 induction s with
 | pure a=>intro w;exact Nat.le_refl _
 | load m a k ih =>
  intro w
  unfold Sem.run
  split
  ·exact ih _ w
  ·split
   ·exact ih _ w
   ·exact Nat.le_refl _
 | store m a v k ih =>
  intro w
  cases v
  case agg=>exact Nat.le_refl _
  case tuple=>exact Nat.le_refl _
  all_goals
   simp only [Sem.run]
   split
   ·split
    ·exact Nat.le_refl _
    ·exact Nat.le_trans (Nat.le_of_eq (lN ..).symm) (ih _)
   ·split
    ·rename_i h
     have:=kj h
     rw [← this]
     exact ih _
    ·exact Nat.le_refl _
 | new o k ih=>intro w;exact ih _ { w with heap:=w.heap.push o }
 | shape r k ih=>intro w;exact ih _ w
 | freeze a n k ih=>intro w;have:=ih (w.freeze a n);rw [nn] at this;exact this
 | frozen a k ih=>intro w;exact ih _ w
 | getObj r k ih =>
  intro w
  unfold Sem.run
  split<;>first | exact Nat.le_refl _ | exact ih _ w
 | setObj r o k ih =>
  intro w
  unfold Sem.run
  split<;>first | exact Nat.le_refl _ | exact ih { w with heap:=w.heap.setIfInBounds r o }
 | choose q k ih =>
  intro w
  unfold Sem.run
  split
  ·exact ih _ w
  ·exact Nat.le_trans (Nat.le_succ _) (ih _ { w with drawn:=w.drawn+1 })
 | sys c k ih=>intro w;exact Nat.le_trans (rC w c) (ih _ _)
 | program k ih=>intro w;exact ih _ w
 | mark m k ih=>intro w;exact ih w
 | halt h=>intro w;exact Nat.le_refl _
def upG (n:Nat):GStep→Prop
 | .go _ w _=>n≤w.drawn
 | .comm _ _ _ _ w _=>n≤w.drawn
 | .spawn _ _ w _=>n≤w.drawn
 | .count _ w _=>n≤w.drawn
 | .timer _ _ w _=>n≤w.drawn
 | .alone _ _ w _=>n≤w.drawn
 | .newcoro _ _ _ w _=>n≤w.drawn
 | .coroswitch _ _ _ w _=>n≤w.drawn
 | .collect _ w _=>n≤w.drawn
 | .watch _ w _=>n≤w.drawn
 | .ended ..=>True
def upS (n:Nat):Stepped→Prop
 | .next m=>n≤m.world.drawn
 | .ended ..=>True
theorem b8 {n:Nat} {es:Array Event} {s:GStep} (h:upG n s):upG n (GStep.after es s):=by cases s<;>exact h
theorem l7 (n:Nat) (w:World) (fd:Nat) (t:ByteArray) (o:Outcome):upG n (endWith w fd t o):=by
 unfold endWith
 dsimp only
 repeat' split
 all_goals trivial
theorem pV {n:Nat} {fr:Frame} {l:List ByteArray} {m:String} {b:Bool} {w:World} (h:n≤w.drawn):upG n (dieOf fr l m b w):=h
theorem aP {n:Nat} {fr:Frame} {m:String} {w:World} (h:n≤w.drawn):upG n (endThrow fr m w):=h
theorem bM {n:Nat} {p:Program} {fr:Frame} {v:Value} {w:World} (h:n≤w.drawn):upG n (endPrinting p fr v w):=by
 unfold endPrinting
 dsimp only
 split
 ·exact aP h
 ·trivial
theorem ah {α:Type} {p:Program} {s:Sem α} {w w':World} {a:α} {n:Nat} (e:s.run p w = .ok a w') (h:n≤w.drawn):n≤w'.drawn:=by
 have:=oc p s w
 rw [e] at this
 exact Nat.le_trans h this
theorem a7 {α:Type} {p:Program} {s:Sem α} {w w':World} {a:Halt} {n:Nat} (e:s.run p w = .halt a w') (h:n≤w.drawn):n≤w'.drawn:=by
 have:=oc p s w
 rw [e] at this
 exact Nat.le_trans h this
theorem bg {n:Nat} {p:Program} {fr:Frame} {cs:List Frame} {d:Option Dying} {m:String} {w:World} (h:n≤w.drawn):upG n (endFatal p fr cs d m w):=by
 unfold endFatal
 dsimp only
 split
 ·rename_i e;exact pV (ah e h)
 ·trivial
 ·trivial
theorem lK {n:Nat} {p:Program} {fr:Frame} {d:Dying} {f:Fatal} {w:World} (h:n≤w.drawn):upG n (writeOn p fr d f w):=by
 unfold writeOn
 dsimp only
 split
 ·trivial
 ·simp only [Sem.runT_eq]
  split
  ·rename_i e;simp only [Prod.mk.injEq] at e;exact ah e.1 h
  ·rename_i e;simp only [Prod.mk.injEq] at e;exact a7 e.1 h
  ·trivial
  ·trivial
theorem rR {n:Nat} {p:Program} {fr:Frame} {d:Dying} {w:World} (h:n≤w.drawn):upG n (die p fr d w):=by
 unfold die
 simp only [Sem.runT_eq]
 repeat' split
 all_goals first
  | trivial
  | exact h
  | exact lK h
  | exact l7 _ _ _ _ _
  | (rename_i e;exact ah e h)
  | (apply b8;repeat' split)
 all_goals first
  | trivial
  | (rename_i e;exact ah e h)
  | (rename_i e;exact a7 e h)
  | (rename_i e;exact bM (a7 e h))
theorem bD {n:Nat} {p:Program} {b:Bool} {fr:Frame} {cs:List Frame} {d:Option Dying} {v:Value} {w:World} (h:n≤w.drawn):upG n (doReturn p b fr cs d v w):=by
 unfold doReturn
 repeat' split
 all_goals first | trivial | exact h
theorem fx {n:Nat} {p:Program} {fr:Frame} {cs:List Frame} {d:Option Dying} {v:Deferred} {w:World} (h:n≤w.drawn):upG n (callDeferred p fr cs d v w):=by
 unfold callDeferred
 simp only [Sem.runT_eq]
 repeat' (first | with_reducible apply b8 | split)
 all_goals first
  | trivial
  | exact h
  | (apply ah (h:=h);assumption)
  | (apply a7 (h:=h);assumption)
  | (apply bg;apply a7 (h:=h);assumption)
  | (apply aP;apply a7 (h:=h);assumption)
  | (apply aP;apply ah (h:=h);assumption)
  | (apply bD;apply ah (h:=h);assumption)
  | exact bD h
  | (refine bM ?_;exact h)
theorem mq {n:Nat} {p:Program} {b:Bool} {fr:Frame} {cs:List Frame} {d:Option Dying} {w:World} (h:n≤w.drawn):upG n (unwind p b fr cs d w):=by
 unfold unwind
 simp only [Sem.runT_eq]
 repeat' (first | with_reducible apply b8 | split)
 all_goals first
  | exact fx h
  | first
  | trivial
  | exact h
  | (apply ah (h:=h);assumption)
  | (apply a7 (h:=h);assumption)
  | (apply bg;apply a7 (h:=h);assumption)
  | (apply aP;apply a7 (h:=h);assumption)
  | (apply aP;apply ah (h:=h);assumption)
  | (apply bD;apply ah (h:=h);assumption)
  | exact bD h
  | (refine bM ?_;exact h)
theorem km {n:Nat} {p:Program} {fr:Frame} {cs:List Frame} {d:Option Dying} {g:Nat} {w:World} (h:n≤w.drawn):upG n (early p fr cs d g w):=by
 unfold early
 dsimp only
 repeat' (first | with_reducible apply b8 | split)
 all_goals first
  | trivial
  | exact h
  | (apply ah (h:=h);assumption)
  | (apply a7 (h:=h);assumption)
  | (apply bg;apply a7 (h:=h);assumption)
  | (apply aP;apply a7 (h:=h);assumption)
  | (apply aP;apply ah (h:=h);assumption)
  | (apply bD;apply ah (h:=h);assumption)
  | exact bD h
  | (have h':=ah ‹(choose (Question.early g)).run p w=_› h;exact h')
  | (refine bM ?_;exact h)
theorem iE {n:Nat} {p:Program} {b:Bool} {fr:Frame} {cs:List Frame} {d:Option Dying} {s:Sem Next} {w:World} (h:n≤w.drawn):upG n (stepG.apply p b fr cs d s w):=by
 unfold stepG.apply
 simp only [Sem.runT_eq]
 have hw:∀ r:Result Next,r=s.run p w→(if b=true then (s.run p w,s.events p w #[]) else (s.run p w,#[])).1=r:=fun r e=>by split<;>exact e.symm
 generalize (if b=true then (s.run p w,s.events p w #[]) else (s.run p w,#[]))=x at *
 obtain ⟨r,es⟩:=x
 have hr:r=s.run p w:=hw _ rfl
 clear hw
 have hk:∀ v2 w2,r = .ok v2 w2→n≤w2.drawn:=fun v2 w2 e=>ah (hr.symm.trans e) h
 have hh:∀ v2 w2,r = .halt v2 w2→n≤w2.drawn:=fun v2 w2 e=>a7 (hr.symm.trans e) h
 clear hr
 dsimp only
 with_reducible apply b8
 repeat' (first | with_reducible apply b8 | split)
 all_goals first
  | trivial
  | (apply hh;rfl)
  | (apply hk;rfl)
  | (apply bg;apply hh;rfl)
  | (apply aP;apply hh;rfl)
  | (apply aP;apply hk;rfl)
  | (apply km;apply hh;rfl)
  | (apply hh;assumption)
  | (apply hk;assumption)
  | (apply bg;apply hh;assumption)
  | (apply aP;apply hh;assumption)
  | (apply aP;apply hk;assumption)
  | (apply km;apply hh;assumption)
theorem qP {n:Nat} {p:Program} {b:Bool} {fr:Frame} {cs:List Frame} {d:Option Dying} {w:World} (h:n≤w.drawn):upG n (stepG.oper p b fr cs d w):=by
 unfold stepG.oper
 split
 ·trivial
 ·split<;>exact iE h
theorem qo {α:Type} {n:Nat} (o:Option α) {a:GStep} {f:α→GStep} (ha:upG n a) (hf:∀ x,upG n (f x)):upG n (o.elim a f):=by
 cases o with
 | none=>exact ha
 | some x=>exact hf x
theorem qm {n:Nat} {p:Program} {main b:Bool} {fr:Frame} {cs:List Frame} {d:Option Dying} {w:World} (h:n≤w.drawn):upG n (stepG.exec p main b fr cs d w):=by
 unfold stepG.exec
 simp only [Sem.runT_eq]
 repeat' (first | with_reducible apply b8 | split | with_reducible apply qo | (intro x))
 all_goals first
  | exact iE h
  | exact qP h
  | (apply iE;apply ah (h:=h);assumption)
  | first
  | trivial
  | exact h
  | (apply ah (h:=h);assumption)
  | (apply a7 (h:=h);assumption)
  | (apply bg;apply a7 (h:=h);assumption)
  | (apply aP;apply a7 (h:=h);assumption)
  | (apply aP;apply ah (h:=h);assumption)
  | (apply bD;apply ah (h:=h);assumption)
  | exact bD h
  | (refine bM ?_;exact h)
theorem oO {n:Nat} {p:Program} {main b:Bool} {g:Goroutine} {w:World} (h:n≤w.drawn):upG n (stepG p main g w b):=by
 obtain ⟨fr,callers,status,dying,offers⟩:=g
 simp only [stepG]
 repeat' split
 all_goals first
  | exact rR h
  | exact qm h
  | exact mq h
theorem ma {n:Nat} {p:Program} {gs:Array Goroutine} {rest:Rest} {w:World} (h:n≤w.drawn):upS n (look p gs rest w):=by
 unfold look
 dsimp only
 repeat' split
 all_goals first
  | trivial
  | (have h':=ah ‹Sem.run p _ w=Result.ok _ _› h;exact h')
theorem qp {n:Nat} {p:Program} {rest:Rest} {gs:Array Goroutine} {i:Nat} {g:Goroutine} {cs:Array CommCase} {b:Bool} {sh:CommShape} {w:World} (h:n≤w.drawn):upS n (communicate p rest gs i g cs b sh w).1:=by
 unfold communicate
 dsimp only
 split
 ·trivial
 split
 ·split
  ·have hw:∀ w',waitingAt rest cs w=some w'→n≤w'.drawn:=fun w' e=>by
    unfold waitingAt at e
    split at e
    ·split at e
     ·cases e;exact h
     ·cases e
    ·cases e;exact h
   split
   ·rename_i e;exact hw _ e
   ·trivial
  ·exact h
 split
 ·trivial
 rename_i e
 have h:=ah e h
 clear e
 repeat' split
 all_goals first
  | trivial
  | exact h
  | (apply a7 (h:=h);assumption)
  | (have h':=ah ‹Sem.run p _ _=Result.ok _ _› h;exact h')
theorem oa {n:Nat} {p:Program} {m:Machine} {k:Nat} (h:n≤m.world.drawn):upS n (serve p m k):=by
 unfold serve
 dsimp only
 repeat' split
 all_goals first | trivial | exact h
theorem pS (w:World) (c:Nat):(drain w c).2.drawn=w.drawn:=by
 unfold drain
 split<;>rfl
theorem iV (m:Machine) (k:Nat) (t:Timer) (a b:Nat):(retime m k t a b).2.world.drawn=m.world.drawn:=by
 unfold retime
 cases t.chan with
 | none=>rfl
 | some c=>exact pS _ _
theorem kT {m m':Machine} {v:Value} {a:Addr} {f:Nat→Timer→Value × Machine} {n:Nat} (hf:∀ k t,n≤(f k t).2.world.drawn) (e:timerOp.named m a f = .ok (v,m')):n≤m'.world.drawn:=by
 unfold timerOp.named at e
 split at e
 ·have:=Except.ok.inj e
  have h:=hf ‹Nat› (m.rest.timers.getD ‹Nat› default)
  rw [this] at h
  exact h
 ·cases e
theorem oN {n:Nat} {m m':Machine} {op:TimerOp} {v:Value} (h:n≤m.world.drawn) (e:timerOp m op = .ok (v,m')):n≤m'.world.drawn:=by
 unfold timerOp at e
 split at e
 ·split at e
  ·cases e;exact h
  ·split at e
   ·split at e
    ·cases e
    ·cases e;exact h
   ·cases e
 ·exact kT (fun k t=>by rw [iV];exact h) e
 ·rename_i var when period
  split at e
  ·rename_i m2 hm
   have h2:n≤m2.world.drawn:=by
    unfold timerOp.opened at hm
    split at hm
    ·split at hm
     ·cases hm;exact h
     ·cases hm
    ·cases hm;exact h
   exact kT (fun k t=>by rw [iV];exact h2) e
  ·cases e
 ·cases e;exact h
theorem runT_up {n:Nat} {p:Program} {m:Machine} {i:Nat} {b:Bool} (h:n≤m.world.drawn):upS n (runT p m i b).1:=by
 unfold runT
 generalize hg:m.gs.swapAt! i { (default:Goroutine) with status:=.finished }=gg
 obtain ⟨g,gs⟩:=gg
 dsimp only
 have hs:=oO (n:=n) (p:=p) (main:=i == 0) (b:=b) (g:=g) h
 generalize stepG p (i == 0) g m.world b=s at *
 cases s with
 | ended o w es=>trivial
 | comm g cs bl sh w es =>
  have:=qp (p:=p) (rest:=m.rest) (gs:=gs) (i:=i) (g:=g) (cs:=cs) (b:=bl) (sh:=sh) (w:=w) hs
  dsimp only
  generalize communicate p m.rest gs i g cs bl sh w=x at *
  obtain ⟨a,c⟩:=x
  exact this
 | go g w es=>exact hs
 | spawn g c w es=>exact hs
 | count g w es =>
  dsimp only
  split
  ·trivial
  ·exact hs
 | alone g o w es=>exact hs
 | collect g w es=>exact ma hs
 | watch g w es=>exact hs
 | newcoro g c d w es=>exact hs
 | coroswitch g c ex w es =>
  dsimp only
  repeat' split
  all_goals first
   | trivial
   | exact hs
   | skip
  all_goals
   rename_i e
   have := aP (n := n) (fr := g.frame) (m := "coroswitch on exited coro") (w := w) hs
   rw [e] at this
   exact this
 | timer g op w es =>
  dsimp only
  split
  ·rename_i e
   have h':=oN (m:={ world:=w,gs:=gs,rest:=m.rest }) hs e
   exact h'
  ·rename_i msg _
   split
   ·rename_i e
    have:=aP (n:=n) (fr:=g.frame) (m:=msg) (w:=w) hs
    rw [e] at this
    exact this
   ·trivial
  ·trivial
  ·trivial
def upM (n:Nat):Move→Prop
 | .goroutine m _=>n≤m.world.drawn
 | .machine s _=>upS n s
theorem iD {n:Nat} {p:Program} {m:Machine} (h:n≤m.world.drawn):upM n (askOn p m):=by
 unfold askOn
 dsimp only
 split
 ·trivial
 rename_i e
 have h:=ah e h
 clear e
 split
 ·exact oa (m:={ m with world:=_ }) h
 split
 ·split
  ·exact h
  ·split
   ·exact h
   ·split<;>trivial
 ·split
  ·split
   ·trivial
   ·rename_i e
    have h:=ah e h
    split
    ·exact h
    ·split
     ·trivial
     ·rename_i e
      have h':=ah e h
      exact h'
  ·split
   ·trivial
   ·rename_i e
    have h:=ah e h
    clear e
    split
    ·trivial
    ·rename_i e
     have h:=ah e h
     split
     ·exact h
     ·split
      ·trivial
      ·rename_i e
       have h':=ah e h
       exact h'
   ·rename_i e
    have h':=ah e h
    exact h'
   ·rename_i e
    have h:=ah e h
    clear e
    split
    ·trivial
    ·rename_i e
     have h:=ah e h
     split
     ·exact h
     ·split
      ·trivial
      ·rename_i e
       have h':=ah e h
       exact h'
theorem qu {n:Nat} {p:Program} {m:Machine} (h:n≤m.world.drawn):upM n (ask p m):=by
 unfold ask
 split
 ·split
  ·trivial
  ·rename_i e
   have h1:=ma (p:=p) (gs:=m.gs) (rest:=m.rest) (ah e h)
   split
   ·rename_i e2
    rw [e2] at h1
    exact iD h1
   ·exact h1
  ·rename_i e
   have h1:=ah e h
   exact iD (m:={ m with world:=_ }) h1
 ·exact iD h
theorem qT {n:Nat} {p:Program} {m:Machine} (h:n≤m.world.drawn):upM n (move p m):=by
 unfold move
 repeat' split
 all_goals first
  | trivial
  | exact h
  | exact qu h
theorem qC {n:Nat} {p:Program} {m:Machine} (h:n≤m.world.drawn):upS n (step p m):=by
 unfold step stepT
 have:=qT (p:=p) h
 generalize move p m=x at *
 cases x with
 | goroutine m' i=>exact runT_up this
 | machine s o=>exact this
theorem mP {n:Nat} {p:Program}:∀ (k:Nat) {m m':Machine},n≤m.world.drawn→runN p k m = .next m'→n≤m'.world.drawn
 | 0,m,m',h,e=>by cases e;exact h
 | k+1,m,m',h,e=>by
  unfold runN at e
  have:=qC (p:=p) h
  split at e
  ·rename_i m2 e2
   rw [e2] at this
   exact mP k this e
  ·rename_i h2
   exact absurd e (h2 m')
theorem p6 {p:Program} {m m':Machine} (h:Steps p m m'):m.world.drawn≤m'.world.drawn:=by
 obtain ⟨k,hk⟩:=h
 exact mP k (Nat.le_refl _) hk
theorem lI {P:Program} {f:FuncId} {args:Array Value} {w:World} {R:Ending→World→Prop} (h:Calls P f args w R) (hR:∀ e w',R e w'→∃ v,e = .returned v):Calls P f args w fun e w'=>R e w'∧w.drawn≤w'.drawn:=fun cs=>by
 obtain ⟨e,w',fr,h1,h2,h3,h4⟩:=h cs
 obtain ⟨v,rfl⟩:=hR e w' h1
 exact ⟨_,w',fr,⟨h1,p6 h2⟩,h2,h3,h4⟩
end Go.Sx
namespace Go.Proofs.YtmehinfgdcmmjaaGreat
open Go.Sx
set_option maxRecDepth 20000
set_option linter.unusedSimpArgs false
set_option linter.unusedVariables false
set_option maxHeartbeats 4000000
theorem o9 (f:Int) (b:Bool) (hb:b=true↔0≤f∧f<4):NCall Tryz.prog 90 [.int .i64 f] [] fun r _=>r = .bool b:=by
 refine aA Tryz.func90 rfl (by decide) ?_
 cases b
 ·have hn:¬ (0≤f∧f<4):=fun h=>by cases hb.2 h
  repeat' first|(refine sxZ ?_;try clear hK K)|refine sxW ?_ ?_<;>intro _|(intro K hK _;conv=>whnf)
  all_goals first
   | rfl
   | (congr 1;simp only [decide_eq_false_iff_not];omega)
   | (exfalso;omega)
 ·have hp:=hb.1 rfl
  repeat' first|(refine sxZ ?_;try clear hK K)|refine sxW ?_ ?_<;>intro _|(intro K hK _;conv=>whnf)
  all_goals first
   | rfl
   | (congr 1;simp only [decide_eq_true_eq];omega)
   | (exfalso;omega)
theorem oJ (s:Po.S) (f v:Int):NCall Tryz.prog 57 [.agg [.int .i64 s.p0,.int .i64 s.p1,.int .i64 s.p2,.int .i64 s.p3],.int .i64 f,.int .i64 v] [] fun r _=>r = .agg [.int .i64 (Po.withS f v s).p0,.int .i64 (Po.withS f v s).p1,.int .i64 (Po.withS f v s).p2,.int .i64 (Po.withS f v s).p3]:=by
 refine NCall.fits (K:=fun r m=>r = .agg [.int .i64 (Po.withS f v s).p0,.int .i64 (Po.withS f v s).p1,.int .i64 (Po.withS f v s).p2,.int .i64 (Po.withS f v s).p3]) ?_ fun r m' h=>⟨r,_,rfl,MemFits.eq rfl,h⟩
 have ht:NCall Tryz.prog 89 [.int .i64 f] [] fun r _=>r = .int .i64 (Po.ptop f):=kF f
 refine aA Tryz.func57 rfl (by decide) ?_
 have hw:Po.withS f v s=if (0≤f∧f<4)∧0≤v∧v≤Po.ptop f then (if f=0 then { s with p0:=v } else if f=1 then { s with p1:=v } else if f=2 then { s with p2:=v } else { s with p3:=v }) else s:=rfl
 by_cases h4:0≤f∧f<4
 ·have hi:=o9 f true (by simpa using h4)
  generalize Po.withS f v s=E at *
  generalize Po.ptop f=tp at *
  obtain ⟨a0,a,b,c,d⟩:=s
  by_cases hv:0≤v∧v≤tp
  ·rw [if_pos ⟨h4,hv⟩] at hw
   have h4':f=0∨f=1∨f=2∨f=3:=by omega
   rcases h4' with rfl | rfl | rfl | rfl
   all_goals
    subst hw
    simp only
    repeat' first|(intro K hK;(with_reducible refine gC ?_);first|refine cP hi ?_|refine cP ht ?_)|(refine sxZ ?_;try clear hK K)|refine sxW ?_ ?_<;>intro _|(intro K hK _;conv=>whnf)
    all_goals rfl
  ·rw [if_neg (fun h=>hv h.2)] at hw
   subst hw
   simp only
   repeat' first|(intro K hK;(with_reducible refine gC ?_);first|refine cP hi ?_|refine cP ht ?_)|(refine sxZ ?_;try clear hK K)|refine sxW ?_ ?_<;>intro _|(intro K hK _;conv=>whnf)
   all_goals first | rfl | (exfalso;omega)
 ·have hi:=o9 f false (by simpa using h4)
  rw [if_neg (fun h=>h4 h.1)] at hw
  rw [hw]
  obtain ⟨a0,a,b,c,d⟩:=s
  simp only
  repeat' first|(intro K hK;(with_reducible refine gC ?_);refine cP hi ?_)|(refine sxZ ?_;try clear hK K)|refine sxW ?_ ?_<;>intro _|(intro K hK _;conv=>whnf)
  all_goals rfl
theorem qH (k f v:Int) (p0 p1 p2:Int) (pv uv:AV) (s:Po.S):NCall Tryz.prog 193 [.agg [.int .i64 k,.int .i64 p0,.int .i64 p1,.int .i64 p2,pv,.int .i64 f,.int .i64 v,uv],.agg s.av] [] fun r _=>r = .agg (Po.put f v s).av:=by
 refine NCall.fits (K:=fun r m=>r = .agg (Po.put f v s).av) ?_ fun r m' h=>⟨r,_,rfl,MemFits.eq rfl,h⟩
 have cw:=oJ s f v
 have hp : (Po.withS f v s).port = s.port := by unfold Po.withS; repeat' split
                                                all_goals rfl
 have hput:Po.put f v s=if f=4 then { s with port:=v } else Po.withS f v s:=rfl
 refine aA Tryz.func193 rfl (by decide) ?_
 unfold Po.S.av
 generalize Po.put f v s=E at *
 generalize Po.withS f v s=W at *
 obtain ⟨w,w0,w1,w2,w3⟩:=W
 obtain ⟨a0,a,b,c,d⟩:=s
 simp only at hp cw
 subst hp
 by_cases h4:f=4
 ·rw [if_pos h4] at hput
  subst hput h4
  simp only
  repeat' first|(refine sxZ ?_;try clear hK K)|refine sxW ?_ ?_<;>intro _|(intro K hK _;conv=>whnf)
  all_goals rfl
 ·rw [if_neg h4] at hput
  subst hput
  simp only
  repeat' first|(intro K hK;(with_reducible refine gC ?_);refine cP cw ?_)|(refine sxZ ?_;try clear hK K)|refine sxW ?_ ?_<;>intro _|(intro K hK _;conv=>whnf)
  all_goals rfl
theorem mZ (n:Int):NCall Tryz.prog 172 [.int .i64 n] [] fun r _=>r = .bool false:=by
 refine aA Tryz.func172 rfl (by decide) ?_
 repeat' first|(refine sxZ ?_;try clear hK K)|refine sxW ?_ ?_<;>intro _|(intro K hK _;conv=>whnf)
 all_goals simp
theorem eO (a b:Int):NCall Tryz.prog 183 [.int .i64 a,.int .i64 b] [] fun r _=>r = .int .i64 (Po.cmpI a b):=by
 have ca:=mZ a
 have cb:=mZ b
 have hc:Po.cmpI a b=if a<b then -1 else if b<a then 1 else 0:=rfl
 generalize Po.cmpI a b=c at *
 refine aA Tryz.func183 rfl (by decide) ?_
 by_cases h1:a<b
 ·rw [if_pos h1] at hc
  repeat' first|(intro K hK;(with_reducible refine gC ?_);first|refine cP ca ?_|refine cP cb ?_)|(refine sxZ ?_;try clear hK K)|refine sxW ?_ ?_<;>intro _|(intro K hK _;conv=>whnf)
  all_goals first | (rw [hc]) | (exfalso;omega)
 ·rw [if_neg h1] at hc
  by_cases h2:b<a
  ·rw [if_pos h2] at hc
   repeat' first|(intro K hK;(with_reducible refine gC ?_);first|refine cP ca ?_|refine cP cb ?_)|(refine sxZ ?_;try clear hK K)|refine sxW ?_ ?_<;>intro _|(intro K hK _;conv=>whnf)
   all_goals first | (rw [hc]) | (exfalso;omega)
  ·rw [if_neg h2] at hc
   repeat' first|(intro K hK;(with_reducible refine gC ?_);first|refine cP ca ?_|refine cP cb ?_)|(refine sxZ ?_;try clear hK K)|refine sxW ?_ ?_<;>intro _|(intro K hK _;conv=>whnf)
   all_goals first | (rw [hc]) | (exfalso;omega)
set_option maxHeartbeats 2000000
namespace Po
inductive R (F:Heap):T→List Value→Prop where
 | mk (k:Int) (p:Pd.T) (f v:Int) (l:List T) (pA:Option Addr) (pcap:Nat) (hp:Pd.Row F (.slice pA p.l.length pcap) p.l) (A:Option Addr) (cap:Nat) (g:Nat→List Value) (hs:SlOk (.slice A l.length cap) l.length) (h1:∀ (i:Nat) (x:T),l[i]?=some x→R F x (g i))
   (h2:∀ i,i<l.length→(g i).length=8∧CellsF F (addrOf (.slice A l.length cap)) (i*8) (g i)) :
   R F (.mk k p f v l) [.int .i64 k,.int .i64 p.k,.int .i64 p.f,.int .i64 p.v,.slice pA p.l.length pcap,.int .i64 f,.int .i64 v,.slice A l.length cap]
abbrev Row (F:Heap) (v:Value) (l:List T):Prop:=aH F 8 (R F) v l
structure At (F:Heap) (x:T) (pu u:Value):Prop where
 p:Pd.Row F pu x.p.l
 l:Row F u x.l
def cs (x:T) (pu u:Value):List AV:=[.int .i64 x.k,.int .i64 x.p.k,.int .i64 x.p.f,.int .i64 x.p.v,.hs pu x.p.l.length,.int .i64 x.f,.int .i64 x.v,.hs u x.l.length]
theorem R.inv {F:Heap} {x:T} {us:List Value} (h:R F x us):∃ pA pcap A cap,At F x (.slice pA x.p.l.length pcap) (.slice A x.l.length cap) ∧
  us=[.int .i64 x.k,.int .i64 x.p.k,.int .i64 x.p.f,.int .i64 x.p.v,.slice pA x.p.l.length pcap,.int .i64 x.f,.int .i64 x.v,.slice A x.l.length cap]:=by
 cases h with
 | mk k p f v l pA pcap hp A cap g hs h1 h2=>exact ⟨pA,pcap,A,cap,⟨hp,⟨hs,fun i x hx=>⟨g i,h1 i x hx,(h2 i (List.getElem?_eq_some_iff.1 hx).1).1,(h2 i (List.getElem?_eq_some_iff.1 hx).1).2⟩⟩⟩,rfl⟩
theorem R.of {F:Heap} {x:T} {pA A:Option Addr} {pcap cap:Nat} (h:At F x (.slice pA x.p.l.length pcap) (.slice A x.l.length cap)) :
  R F x [.int .i64 x.k,.int .i64 x.p.k,.int .i64 x.p.f,.int .i64 x.p.v,.slice pA x.p.l.length pcap,.int .i64 x.f,.int .i64 x.v,.slice A x.l.length cap]:=by
 obtain ⟨k,p,f,v,l⟩:=x
 obtain ⟨hp,h⟩:=h
 have h:Row F (.slice A l.length cap) l:=h
 have hg:∀ i:Nat,∃ g:List Value,∀ x,l[i]?=some x→R F x g∧g.length=8∧CellsF F (addrOf (.slice A l.length cap)) (i*8) g:=fun i=>by
  cases hx:l[i]? with
  | none=>exact ⟨[],fun x e=>by cases e⟩
  | some x =>
   obtain ⟨g,h1,h2,h3⟩:=h.at_ i x hx
   exact ⟨g,fun y e=>by cases e;exact ⟨h1,h2,h3⟩⟩
 refine R.mk k p f v l pA pcap hp A cap (fun i=>Classical.choose (hg i)) h.ok (fun i x hx=>(Classical.choose_spec (hg i) x hx).1) fun i hi=>?_
 have:=Classical.choose_spec (hg i) l[i] (List.getElem?_eq_getElem hi)
 exact ⟨this.2.1,this.2.2⟩
theorem R.mono {F G:Heap} (h:F.le G) {p:T} {us:List Value} (hp:R F p us):R G p us:=by
 induction hp with
 | mk k p f v l pA pcap hp A cap g hs _ h2 ih=>exact R.mk k p f v l pA pcap (Pd.Row.mono h hp) A cap g hs ih fun i hi=>⟨(h2 i hi).1,(h2 i hi).2.mono h⟩
theorem Row.mono {F G:Heap} (h:F.le G) {v:Value} {l:List T} (hv:Row F v l):Row G v l:=aH.mono h (fun _ _ hp=>R.mono h hp) hv
theorem At.mono {F G:Heap} (h:F.le G) {x:T} {pu u:Value} (hx:At F x pu u):At G x pu u:=⟨Pd.Row.mono h hx.p,Row.mono h hx.l⟩
structure Cell (F:Heap) (v:Value) (i:Nat) (x:T) (pA:Option Addr) (pcap:Nat) (A:Option Addr) (cap:Nat):Prop where
 c0:F.c ((addrOf v).add (i*8)) (.int .i64 x.k)
 c1:F.c ((addrOf v).add (i*8+1)) (.int .i64 x.p.k)
 c2:F.c ((addrOf v).add (i*8+2)) (.int .i64 x.p.f)
 c3:F.c ((addrOf v).add (i*8+3)) (.int .i64 x.p.v)
 c4:F.c ((addrOf v).add (i*8+4)) (.slice pA x.p.l.length pcap)
 c5:F.c ((addrOf v).add (i*8+5)) (.int .i64 x.f)
 c6:F.c ((addrOf v).add (i*8+6)) (.int .i64 x.v)
 c7:F.c ((addrOf v).add (i*8+7)) (.slice A x.l.length cap)
theorem Row.get {F:Heap} {v:Value} {l:List T} (h:Row F v l) {i:Nat} {x:T} (hx:l[i]?=some x):∃ pA pcap A cap,At F x (.slice pA x.p.l.length pcap) (.slice A x.l.length cap)∧Cell F v i x pA pcap A cap:=by
 obtain ⟨us,h1,_,h2⟩:=h.at_ i x hx
 obtain ⟨pA,pcap,A,cap,h3,rfl⟩:=h1.inv
 simp only [CellsF,Nat.add_assoc,Nat.reduceAdd] at h2
 obtain ⟨c0,c1,c2,c3,c4,c5,c6,c7,_⟩:=h2
 exact ⟨pA,pcap,A,cap,h3,c0,c1,c2,c3,c4,c5,c6,c7⟩
end Po
theorem ax (k:Int) (p:Pd.T) (f v:Int) (l:List Po.T) (pu u:Value):Po.cs (.mk k p f v l) pu u=[.int .i64 k,.int .i64 p.k,.int .i64 p.f,.int .i64 p.v,.hs pu p.l.length,.int .i64 f,.int .i64 v,.hs u l.length]:=rfl
section
variable (F:Heap)
theorem jx:∀ (n:Nat) (x:Po.T) (pu u:Value),Po.tot x≤n→Po.tot x≤4611686018427387904→Po.At F x pu u →
  NCall Tryz.prog 74 [.agg (Po.cs x pu u)] [hpB F] fun r m=>r = .int .i64 (Po.size x:Nat)∧m=[hpB F]
 | 0,x,pu,u,hn,_,_=>absurd (Po.tot_pos x) (by omega)
 | n+1,⟨k,p,f,v,l⟩,pu,u,hn,hs,hx=>by
  refine NCall.fits (K:=fun r m=>r = .int .i64 (Po.size (.mk k p f v l):Nat)∧MemFits m [hpB F]) ?_ fun r m' h=>⟨r,_,rfl,h.2,h.1,rfl⟩
  have hu:Po.Row F u l:=hx.l
  have hpu:Pd.Row F pu p.l:=hx.p
  have hok:=hu.ok
  have hpok:=hpu.ok
  have e:=Po.tot_mk k p f v l
  have hll:=Po.length_le l
  have cp:=gU F _ p pu (Nat.le_refl _) (by omega) hpu
  have ih:∀ y∈l,∀ pw w,Po.At F y pw w→_:=fun y hy pw w hw=>jx n y pw w (by have:=Po.tot_lt (k:=k) (q:=p) (f:=f) (v:=v) hy;omega) (by have:=Po.tot_lt (k:=k) (q:=p) (f:=f) (v:=v) hy;omega) hw
  have hsz:Po.size (.mk k p f v l)=1+(if k=2∨k=3∨k=4 then 0 else Pd.size p)+Po.sizeL l:=by rw [Po.size]
  rw [hsz]
  refine aA Tryz.func74 rfl (by decide) ?_
  rw [ax]
  generalize hz:Pd.size p=z at *
  by_cases hk:k=2∨k=3∨k=4
  ·rw [if_pos hk,Nat.add_zero]
   rcases hk with rfl | rfl | rfl
   iterate 3
    ·repeat' first|(refine sxZ ?_;try clear hK K)|refine sxW ?_ ?_<;>intro _|(intro K hK _;conv=>whnf)
     refine aD (α:=Nat) (fun i=>i≤l.length) (fun i=>[.k,.k,.k,.set (.int .i64 (1+Po.sizeL (l.take i):Nat)),.k,.d,.k,.k,.k,.k,.k,.k,.k,.k,.k,.k,.k,.k,.k,.k,.k,.k,.k,.k,.k,.k,.k,.set (.int .i64 i),.d,.d,.d,.d,.d,.d,.d,.d,.k]) (fun _=>[]) (fun i=>l.length - i) 0 (Nat.zero_le _) ?_ (MemFits.eq rfl) ?_
     ·repeat (first | exact FitsSl.nil | refine FitsSl.any ?_ | refine FitsSl.cons (Fit1.int (by  simp [Po.sizeL])) ?_ | refine FitsSl.cons (Fit1.int (by first | rfl | omega)) ?_ | refine FitsSl.cons (Fit1.bool rfl) ?_ | refine FitsSl.cons (Fit1.str rfl) ?_ | refine FitsSl.cons (Fit1.same (by intro h;cases h) (by with_reducible rfl)) ?_ | refine FitsSl.cons Fit1.nil_sl ?_ | refine FitsSl.cons (Fit1.hs rfl) ?_ | refine FitsSl.cons (Fit1.hp rfl rfl) ?_ | refine FitsSl.cons (Fit1.sl rfl) ?_ | refine FitsSl.cons (Fit1.ptr rfl rfl) ?_ | refine FitsSl.cons Fit1.raw ?_)
     (intro i hi;intro K hK;(conv=>whnf);refine hK _ _ ?_;clear hK K)
     have hle:=Po.sizeL_take_le (l:=l) (k:=i)
     by_cases hlt:i<l.length
     ·have hx:l[i]?=some l[i]:=List.getElem?_eq_getElem hlt
      obtain ⟨pA,pcap,A,cap,hA,c0,c1,c2,c3,c4,c5,c6,c7⟩:=hu.get hx
      have hmem:=List.mem_of_getElem? hx
      have hnx:=Po.sizeL_take hlt
      have hle2:=Po.sizeL_take_le (l:=l) (k:=i+1)
      have hAo:=hA.l.ok
      have hAp:=hA.p.ok
      have c:=ih _ hmem _ _ hA
      clear ih
      generalize l[i]=y at *
      generalize Po.size y=sx at *
      generalize Po.sizeL (l.take i)=si at *
      obtain ⟨yk,⟨ypk,ypf,ypv,ypl⟩,yf,yv,yl⟩:=y
      simp only [Po.cs,Po.T.k,Po.T.p,Po.T.f,Po.T.v,Po.T.l,Pd.T.k,Pd.T.f,Pd.T.v,Pd.T.l] at c c0 c1 c2 c3 c4 c5 c6 c7 hAo hAp
      repeat' first|(intro K hK;(with_reducible refine gC ?_);refine cS [0] c ?_)|(refine sxZ ?_;try clear hK K)|refine sxW ?_ ?_<;>intro _|(intro K hK _;conv=>whnf)
      refine aB (i+1) hlt (by omega) ?_ (MemFits.pre 2 rfl)
      repeat (first | exact FitsSl.nil | refine FitsSl.any ?_ | refine FitsSl.cons (Fit1.int (by  omega)) ?_ | refine FitsSl.cons (Fit1.int (by first | rfl | omega)) ?_ | refine FitsSl.cons (Fit1.bool rfl) ?_ | refine FitsSl.cons (Fit1.str rfl) ?_ | refine FitsSl.cons (Fit1.same (by intro h;cases h) (by with_reducible rfl)) ?_ | refine FitsSl.cons Fit1.nil_sl ?_ | refine FitsSl.cons (Fit1.hs rfl) ?_ | refine FitsSl.cons (Fit1.hp rfl rfl) ?_ | refine FitsSl.cons (Fit1.sl rfl) ?_ | refine FitsSl.cons (Fit1.ptr rfl rfl) ?_ | refine FitsSl.cons Fit1.raw ?_)
     ·have hkl:i=l.length:=by omega
      subst hkl
      rw [List.take_length] at hle ⊢
      clear ih
      repeat' first|(refine sxZ ?_;try clear hK K)|refine sxW ?_ ?_<;>intro _|(intro K hK _;conv=>whnf)
      all_goals exact ⟨rfl,MemFits.pre 1 rfl⟩
  ·rw [if_neg hk]
   obtain ⟨pk,pf,pv,pl⟩:=p
   simp only [ab,Pd.T.k,Pd.T.f,Pd.T.v,Pd.T.l] at *
   repeat' first|(intro K hK;(with_reducible refine gC ?_);refine cS [0] cp ?_)|(refine sxZ ?_;try clear hK K)|refine sxW ?_ ?_<;>intro _|(intro K hK _;conv=>whnf)
   all_goals first | (exfalso;omega) | skip
   refine aD (α:=Nat) (fun i=>i≤l.length) (fun i=>[.k,.k,.k,.set (.int .i64 (1+z+Po.sizeL (l.take i):Nat)),.k,.d,.k,.k,.k,.k,.k,.k,.k,.k,.k,.k,.k,.k,.k,.k,.k,.k,.k,.k,.k,.k,.k,.set (.int .i64 i),.d,.d,.d,.d,.d,.d,.d,.d,.k]) (fun _=>[]) (fun i=>l.length - i) 0 (Nat.zero_le _) ?_ (MemFits.eq rfl) ?_
   ·repeat (first | exact FitsSl.nil | refine FitsSl.any ?_ | refine FitsSl.cons (Fit1.int (by  simp [Po.sizeL])) ?_ | refine FitsSl.cons (Fit1.int (by first | rfl | omega)) ?_ | refine FitsSl.cons (Fit1.bool rfl) ?_ | refine FitsSl.cons (Fit1.str rfl) ?_ | refine FitsSl.cons (Fit1.same (by intro h;cases h) (by with_reducible rfl)) ?_ | refine FitsSl.cons Fit1.nil_sl ?_ | refine FitsSl.cons (Fit1.hs rfl) ?_ | refine FitsSl.cons (Fit1.hp rfl rfl) ?_ | refine FitsSl.cons (Fit1.sl rfl) ?_ | refine FitsSl.cons (Fit1.ptr rfl rfl) ?_ | refine FitsSl.cons Fit1.raw ?_)
   (intro i hi;intro K hK;(conv=>whnf);refine hK _ _ ?_;clear hK K)
   have hle:=Po.sizeL_take_le (l:=l) (k:=i)
   by_cases hlt:i<l.length
   ·have hx:l[i]?=some l[i]:=List.getElem?_eq_getElem hlt
    obtain ⟨pA,pcap,A,cap,hA,c0,c1,c2,c3,c4,c5,c6,c7⟩:=hu.get hx
    have hmem:=List.mem_of_getElem? hx
    have hnx:=Po.sizeL_take hlt
    have hle2:=Po.sizeL_take_le (l:=l) (k:=i+1)
    have hAo:=hA.l.ok
    have hAp:=hA.p.ok
    have c:=ih _ hmem _ _ hA
    clear ih
    generalize l[i]=y at *
    generalize Po.size y=sx at *
    generalize Po.sizeL (l.take i)=si at *
    obtain ⟨yk,⟨ypk,ypf,ypv,ypl⟩,yf,yv,yl⟩:=y
    simp only [Po.cs,Po.T.k,Po.T.p,Po.T.f,Po.T.v,Po.T.l,Pd.T.k,Pd.T.f,Pd.T.v,Pd.T.l] at c c0 c1 c2 c3 c4 c5 c6 c7 hAo hAp
    repeat' first|(intro K hK;(with_reducible refine gC ?_);refine cS [0] c ?_)|(refine sxZ ?_;try clear hK K)|refine sxW ?_ ?_<;>intro _|(intro K hK _;conv=>whnf)
    refine aB (i+1) hlt (by omega) ?_ (MemFits.pre 2 rfl)
    repeat (first | exact FitsSl.nil | refine FitsSl.any ?_ | refine FitsSl.cons (Fit1.int (by  omega)) ?_ | refine FitsSl.cons (Fit1.int (by first | rfl | omega)) ?_ | refine FitsSl.cons (Fit1.bool rfl) ?_ | refine FitsSl.cons (Fit1.str rfl) ?_ | refine FitsSl.cons (Fit1.same (by intro h;cases h) (by with_reducible rfl)) ?_ | refine FitsSl.cons Fit1.nil_sl ?_ | refine FitsSl.cons (Fit1.hs rfl) ?_ | refine FitsSl.cons (Fit1.hp rfl rfl) ?_ | refine FitsSl.cons (Fit1.sl rfl) ?_ | refine FitsSl.cons (Fit1.ptr rfl rfl) ?_ | refine FitsSl.cons Fit1.raw ?_)
   ·have hkl:i=l.length:=by omega
    subst hkl
    rw [List.take_length] at hle ⊢
    clear ih
    repeat' first|(refine sxZ ?_;try clear hK K)|refine sxW ?_ ?_<;>intro _|(intro K hK _;conv=>whnf)
    all_goals exact ⟨rfl,MemFits.pre 1 rfl⟩
end
namespace Srt
def av (l:List Int):List AV:=l.map fun z=>.int .i64 z
def V (z:Int):List Value:=[.int .i64 z]
abbrev Row (F:Heap) (v:Value) (l:List Int):Prop:=aH F 1 (fun x us=>us=V x) v l
theorem av_den:∀ l,denL (av l)=l.map (Value.int .i64)
 | []=>rfl
 | x::l=>by
  have:=av_den l
  unfold av at *
  rw [List.map_cons,denL,this]
  rfl
theorem av_flat (l:List Int):denL (av l)=l.flatMap V:=by
 rw [av_den]
 induction l with
 | nil=>rfl
 | cons x l ih=>rw [List.map_cons,ih];rfl
theorem av_len (l:List Int):(av l).length=l.length:=by unfold av;rw [List.length_map]
theorem av_append (a b:List Int):av (a++b)=av a++av b:=by unfold av;rw [List.map_append]
def sort (l:List Int):List Int:=l.mergeSort fun x y=>decide (x≤y)
theorem sort_len (l:List Int):(sort l).length=l.length:=List.length_mergeSort l
def cutTo (v:Value) (k:Nat):Value:=match v with | .slice a _ c=>.slice a k c | _=>v
end Srt
theorem oY (v:Value) (t:TypeId) (l:List Int) (hl:l.length<4611686018427387904) :
  NCall Tryz.prog 79 [.sl 0 v l.length] [⟨addrOf v,Srt.av l,.row v t 1 l.length⟩] fun r m=>r = .tup []∧m=[⟨addrOf v,Srt.av (Srt.sort l),.row v t 1 l.length⟩]:=by
 rw [aM]
 refine ⟨Go.Sx.enters_of Tryz.func79 rfl (by decide),fun w hm=>?_⟩
 obtain ⟨⟨h1,h2⟩,h3⟩:=hm.holds _ (List.mem_singleton.2 rfl)
 rcases h2 with ⟨rfl,hn⟩ | ⟨g,cap,cur,rfl,_,hg,hle,hcap,hsz,htk⟩
 ·have e:l=[]:=List.length_eq_zero_iff.1 hn
  subst e
  rw [show Srt.sort []=[] by unfold Srt.sort;simp]
  refine (Tryz.slices_Sort_int_none none 0 w).mono fun e w' ⟨he,hw⟩=>?_
  subst hw
  exact ⟨.tup [],_,⟨rfl,rfl⟩,he,hm,Fr.refl _ _,Fresh.self _ _⟩
 ·rw [Nat.mul_one,Srt.av_den] at htk
  have hlt:g<w.heap.size:=(Array.getElem?_eq_some_iff.1 hg).1
  refine (Tryz.slices_Sort_int g 0 cap l w (Go.holds_of_blockI hg htk) hlt hl).mono fun e w' ⟨he,n,os,hw⟩=>?_
  have hgr:=Go.grownBy_sortedI (w:=w) (g:=g) (n:=n) (os:=os) (Srt.sort l).toArray
  have hown:=Go.ownsRow_sortedI (w:=w) (base:=0) (n:=n) (e:=t) (os:=os) (ss:=l) (ts:=Srt.sort l) (Srt.sort_len l) (Nat.zero_le _) hg hle hcap hsz
  rw [← Srt.av_den] at hown
  have hw':w'=Go.Sort.grow (Go.Sort.putRow (Value.int .i64) (Go.Sort.ahead w n) g 0 (Srt.sort l).toArray) os:=hw
  rw [← hw'] at hgr hown
  have hfr:=Fr.grown hgr
  refine ⟨.tup [],_,⟨rfl,rfl⟩,he,?_,?_,?_⟩
  ·exact hm.set (i:=0) (k:=⟨addrOf (.slice (some ⟨g,0,none⟩) l.length cap),Srt.av (Srt.sort l),.row (.slice (some ⟨g,0,none⟩) l.length cap) t 1 l.length⟩) hfr.size rfl rfl
    (fun b hb hlt=>hfr.block b hlt fun e=>hb e) ⟨hown,rfl⟩ rfl (.inr (.inl rfl))
  ·exact ⟨hfr.os,hfr.tape,hfr.output,hfr.size,fun k hk hS=>hfr.block k hk fun e=>hS ⟨_,List.mem_singleton.2 rfl,rfl,e⟩⟩
  ·exact Fresh.set (i:=0) (Fresh.self _ _) (k:=⟨addrOf (.slice (some ⟨g,0,none⟩) l.length cap),Srt.av (Srt.sort l),.row (.slice (some ⟨g,0,none⟩) l.length cap) t 1 l.length⟩) rfl fun b hb=>.inl ⟨_,List.mem_singleton.2 rfl,rfl,hb⟩
namespace Srt
def comp (l:List Int):List Int:=Go.Lib.compact l
theorem comp_le (l:List Int):(comp l).length≤l.length:=by
 unfold comp Go.Lib.compact Go.Lib.compactUpTo
 rw [List.length_map]
 exact Nat.le_trans (List.length_filter_le _ _) (by simp)
def comped (l:List Int):List Int:=comp l++List.replicate (l.length - (comp l).length) 0
theorem comped_len (l:List Int):(comped l).length=l.length:=by
 have:=comp_le l
 unfold comped
 rw [List.length_append,List.length_replicate]
 omega
end Srt
theorem kx (t:TypeId):NCall Tryz.prog 80 [.sl 0 (.slice none 0 0) 0] [⟨addrOf (.slice none 0 0),[],.row (.slice none 0 0) t 1 0⟩] fun r m=>r = .sl 0 (.slice none 0 0) 0∧m=[⟨addrOf (.slice none 0 0),[],.row (.slice none 0 0) t 1 0⟩]:=by
 refine aA Tryz.func80 rfl (by decide) ?_
 repeat' first|(refine sxZ ?_;try clear hK K)|refine sxW ?_ ?_<;>intro _|(intro K hK _;conv=>whnf)
 all_goals exact ⟨rfl,rfl⟩
theorem iz (v:Value) (t:TypeId) (l:List Int) (hl:l.length≤9223372036854775807) :
  NCall Tryz.prog 80 [.sl 0 v l.length] [⟨addrOf v,Srt.av l,.row v t 1 l.length⟩] fun r m=>r = .raw (Srt.cutTo v (Srt.comp l).length)∧m=[⟨addrOf v,Srt.av (Srt.comped l),.row v t 1 l.length⟩]:=by
 rw [aM]
 refine ⟨Go.Sx.enters_of Tryz.func80 rfl (by decide),fun w hm=>?_⟩
 obtain ⟨⟨h1,h2⟩,h3⟩:=hm.holds _ (List.mem_singleton.2 rfl)
 rcases h2 with ⟨rfl,hn⟩ | ⟨g,cap,cur,rfl,_,hg,hle,hcap,hsz,htk⟩
 ·have e:l=[]:=List.length_eq_zero_iff.1 hn
  subst e
  refine ((aM.1 (kx t)).2 w hm).mono fun e w' ⟨r,m',⟨hr,hm'⟩,he,h⟩=>?_
  subst hr hm'
  exact ⟨.raw (.slice none 0 0),_,⟨rfl,rfl⟩,he,h⟩
 ·rw [Nat.mul_one,Srt.av_den] at htk
  have hlt:g<w.heap.size:=(Array.getElem?_eq_some_iff.1 hg).1
  have hc:=Tryz.slices_Compact (Value.int .i64) (fun _=>rfl) (EqlAt.intD _ _ .i64) (NeqAt.intD _ _ .i64) 0 Tryz.zeroValue3 g 0 cap l.toArray w (Go.holds_of_blockI hg htk) (by simpa using hl) (by simpa using hle)
  refine hc.mono fun e w' ⟨he,n,hw⟩=>?_
  have hgr:=Go.grownBy_sortedI (w:=w) (g:=g) (n:=n) (os:=#[]) (Srt.comped l).toArray
  have hown:=Go.ownsRow_sortedI (w:=w) (base:=0) (n:=n) (e:=t) (os:=#[]) (ss:=l) (ts:=Srt.comped l) (Srt.comped_len l) (Nat.zero_le _) hg hle hcap hsz
  rw [← Srt.av_den] at hown
  have hw':w'=Go.Sort.grow (Go.Sort.putRow (Value.int .i64) (Go.Sort.ahead w n) g 0 (Srt.comped l).toArray) #[]:=by rw [Go.Sort.grow_empty];exact hw
  rw [← hw'] at hgr hown
  have hfr:=Fr.grown hgr
  refine ⟨.raw (.slice (some ⟨g,0,none⟩) (Srt.comp l).length cap),_,⟨rfl,rfl⟩,he,?_,?_,?_⟩
  ·exact hm.set (i:=0) (k:=⟨addrOf (.slice (some ⟨g,0,none⟩) l.length cap),Srt.av (Srt.comped l),.row (.slice (some ⟨g,0,none⟩) l.length cap) t 1 l.length⟩) hfr.size rfl rfl
    (fun b hb hlt=>hfr.block b hlt fun e=>hb e) ⟨hown,rfl⟩ rfl (.inr (.inl rfl))
  ·exact ⟨hfr.os,hfr.tape,hfr.output,hfr.size,fun k hk hS=>hfr.block k hk fun e=>hS ⟨_,List.mem_singleton.2 rfl,rfl,e⟩⟩
  ·exact Fresh.set (i:=0) (Fresh.self _ _) (k:=⟨addrOf (.slice (some ⟨g,0,none⟩) l.length cap),Srt.av (Srt.comped l),.row (.slice (some ⟨g,0,none⟩) l.length cap) t 1 l.length⟩) rfl fun b hb=>.inl ⟨_,List.mem_singleton.2 rfl,rfl,hb⟩
namespace Srt
theorem row_cut {F:Heap} {v:Value} {a b:List Int} (h:Row F v (a++b)):Row F (cutTo v a.length) a∧cutTo v a.length=aw (cutTo v a.length):=by
 obtain ⟨⟨A,cap,rfl,hle,hA⟩,hat⟩:=h
 rw [List.length_append] at hle
 refine ⟨⟨⟨A,cap,rfl,by omega,hA⟩,fun k x hx=>?_⟩,rfl⟩
 have hk:=(List.getElem?_eq_some_iff.1 hx).1
 have e:addrOf (cutTo (.slice A (a++b).length cap) a.length)=addrOf (.slice A (a++b).length cap):=by cases A<;>rfl
 rw [e]
 exact hat k x (by rw [List.getElem?_append_left hk];exact hx)
end Srt
end Go.Proofs.YtmehinfgdcmmjaaGreat
