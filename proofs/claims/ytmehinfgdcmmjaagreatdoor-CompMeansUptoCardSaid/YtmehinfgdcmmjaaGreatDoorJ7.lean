import Derived.Test.YtmehinfgdcmmjaaGreatDoorJ6
namespace Go.Proofs.YtmehinfgdcmmjaaGreatDoor
open Go.Sx
set_option maxRecDepth 20000
set_option linter.unusedVariables false
end Go.Proofs.YtmehinfgdcmmjaaGreatDoor
namespace Go.Proofs.YtmehinfgdcmmjaaGreatDoor
open Go.Sx
set_option maxRecDepth 20000
set_option linter.unusedSimpArgs false
set_option linter.unusedVariables false
set_option linter.unusedVariables false
namespace Ac
structure A where
 k:Int
 f:Int
 v:Int
deriving DecidableEq
def A.av (x:A):List AV:=[.int .i64 x.k,.int .i64 x.f,.int .i64 x.v]
def actV (x:A):List Value:=[.int .i64 x.k,.int .i64 x.f,.int .i64 x.v]
def A.in64 (x:A):Prop:=Mt.i64 x.k∧Mt.i64 x.f∧Mt.i64 x.v
def ok1 (ports:Int) (x:A):Prop:=(x.k=1∧0≤x.f∧x.f≤3∧0≤x.v∧x.v≤Mt.top x.f)∨(x.k=2∧x.f=0∧0≤x.v∧x.v<ports)∨(x.k=3∧x.f=0∧x.v=0)
instance (ports:Int) (x:A):Decidable (ok1 ports x):=by unfold ok1;infer_instance
def okL (ports:Int) (l:List A):Prop:=l.length≤16∧∀ x∈l,ok1 ports x
instance (ports:Int) (l:List A):Decidable (okL ports l):=by unfold okL;infer_instance
end Ac
end Go.Proofs.YtmehinfgdcmmjaaGreatDoor
namespace Go.Proofs.YtmehinfgdcmmjaaGreatDoor
open Go.Sx
set_option linter.unusedVariables false
namespace Ac
structure P4 where
 a:Int
 b:Int
 c:Int
 d:Int
deriving DecidableEq
def P4.av (p:P4):List AV:=[.int .i64 p.a,.int .i64 p.b,.int .i64 p.c,.int .i64 p.d]
def P4.set (p:P4) (f v:Int):P4:=if f=0 then { p with a:=v } else if f=1 then { p with b:=v } else if f=2 then { p with c:=v } else { p with d:=v }
def valid (f v:Int):Prop:=0≤f∧f<4∧0≤v∧v≤Mt.top f
instance (f v:Int):Decidable (valid f v):=by unfold valid;infer_instance
def withF (p:P4) (f v:Int):P4:=if valid f v then p.set f v else p
structure S where
 port:Int
 p:P4
deriving DecidableEq
def S.av (s:S):List AV:=[.int .i64 s.port,.int .i64 s.p.a,.int .i64 s.p.b,.int .i64 s.p.c,.int .i64 s.p.d]
def sentV (s:S):List Value:=[.int .i64 s.port,.int .i64 s.p.a,.int .i64 s.p.b,.int .i64 s.p.c,.int .i64 s.p.d]
def step (came:P4) (s:P4 × List S) (x:A):P4 × List S :=
 if x.k=3 then (came,s.2) else if x.k=1 then (withF s.1 x.f x.v,s.2) else if x.k=2 then (s.1,s.2++[⟨x.v,s.1⟩]) else s
def st (came:P4) (l:List A):P4 × List S:=l.foldl (step came) (came,[])
def run (came:P4) (l:List A):List S:=(st came l).2
theorem st_next {came:P4} {l:List A} {k:Nat} {x:A} (h:l[k]?=some x):st came (l.take (k+1))=step came (st came (l.take k)) x:=by
 unfold st
 rw [List.take_add_one,h,List.foldl_append]
 rfl
theorem step_len (came:P4) (s:P4 × List S) (x:A):(step came s x).2.length≤s.2.length+1:=by
 unfold step
 split
 ·simp
 ·split
  ·simp
  ·split<;>simp
theorem foldl_len (came:P4):∀ (l:List A) (s:P4 × List S),(l.foldl (step came) s).2.length≤s.2.length+l.length
 | [],s=>by simp
 | x::l,s=>by
  have h1:=foldl_len came l (step came s x)
  have h2:=step_len came s x
  simp only [List.foldl_cons,List.length_cons]
  omega
theorem st_len (came:P4) (l:List A):(st came l).2.length≤l.length:=by
 have:=foldl_len came l (came,[])
 simpa [st] using this
theorem step_3 {c p:P4} {o:List S} {x:A} (h:x.k=3):step c (p,o) x=(c,o):=by unfold step;rw [if_pos h]
theorem step_1 {c p:P4} {o:List S} {x:A} (h:x.k=1):step c (p,o) x=(withF p x.f x.v,o):=by unfold step;rw [if_neg (by omega),if_pos h]
theorem step_2 {c p:P4} {o:List S} {x:A} (h:x.k=2):step c (p,o) x=(p,o++[⟨x.v,p⟩]):=by unfold step;rw [if_neg (by omega),if_neg (by omega),if_pos h]
end Ac
end Go.Proofs.YtmehinfgdcmmjaaGreatDoor
namespace Go.Proofs.YtmehinfgdcmmjaaGreatDoor
open Go.Sx
set_option linter.unusedVariables false
deriving instance DecidableEq for Mt.M
namespace Ru
structure R where
 prio:Int
 m:Mt.M
 acts:List Ac.A
def R.cs (x:R) (v:Value):List AV:=[.int .i64 x.prio,.int .i64 x.m.p,.int .i64 x.m.v0,.int .i64 x.m.v1,.int .i64 x.m.v2,.int .i64 x.m.v3,.int .i64 x.m.m0,.int .i64 x.m.m1,.int .i64 x.m.m2,.int .i64 x.m.m3,.hs v x.acts.length]
def R.in64 (x:R):Prop:=Mt.i64 x.prio∧x.m.in64∧(∀ y∈x.acts,y.in64)∧x.acts.length≤9223372036854775807
def ok (ports:Int) (x:R):Prop:=0≤x.prio∧x.prio<65536∧x.m.ok∧Ac.okL ports x.acts
instance (ports:Int) (x:R):Decidable (ok ports x):=by unfold ok;infer_instance
def RowA (F:Heap) (v:Value) (x:R):Prop:=RowF F 3 (fun x vs=>vs=Ac.actV x) v x.acts
end Ru
end Go.Proofs.YtmehinfgdcmmjaaGreatDoor
