import Derived.Test.YtgphhbadnjfbjaaDoorSuQ
import Derived.Test.YtgphhbadnjfbjaaDoorSu10
import Derived.Test.YtgphhbadnjfbjaaDoorSu12
namespace Go.Proofs.YtgphhbadnjfbjaaDoor
set_option maxRecDepth 20000
set_option linter.unusedVariables false
namespace Su
theorem ints_cl {w:L} {mo:Option Nat} {ls r:List L} {xs:List Int} (h:ints w mo ls = .ok xs r):∀ n∈xs,inB n:=by
  unfold ints at h
  split at h
  · cases h
  · rename_i p r' hc
    split at h
    · split at h
      · cases h
      · rename_i ys hy
        cases h
        exact (num_inv p xs hy).2
    · cases h
theorem hex_cl:∀ (p:List L) (xs:List Nat),all hex p=some xs→∀ n∈xs,n<18446744073709551616
  | [],xs,h=>by rw [all] at h;cases h;simp
  | x::p,xs,h=>by
    rw [all] at h
    cases hx:hex x with
    | none=>rw [hx] at h;cases h
    | some a =>
      rw [hx] at h
      cases hp:all hex p with
      | none=>rw [hp] at h;cases h
      | some l =>
        rw [hp] at h
        cases h
        intro n hn
        rcases List.mem_cons.1 hn with rfl | hn
        · exact (hex_some.1 hx).2
        · exact hex_cl p l hp n hn
theorem sets_cl {ls r:List L} {xs:List Nat} (h:sets ls = .ok xs r):∀ n∈xs,n<18446744073709551616:=by
  unfold sets at h
  split at h
  · cases h
  · rename_i p r' hc
    split at h
    · cases h
    · rename_i ys hy
      cases h
      exact hex_cl p xs hy
theorem many_cl {α β:Type} {one:List L→I α} {f:α→β} {P:β→Prop} (hg:∀ ls x r,one ls = .ok x r→P (f x)) :
    ∀ (k:Nat) (acc:List β) (ls:List L) (n:Nat) (ys:List β) (r:List L) (m:Nat),many one f k acc ls n = .ok ys r m→(∀ y∈acc,P y)→∀ y∈ys,P y
  | 0,acc,ls,n,ys,r,m,h,_=>by rw [many] at h;cases h
  | k+1,acc,ls,n,ys,r,m,h,ha=>by
    rw [many] at h
    split at h
    · cases h;exact ha
    · cases h
    · rename_i x q hx
      refine many_cl hg k _ _ _ _ _ _ h fun y hy=>?_
      rcases List.mem_append.1 hy with hy | hy
      · exact ha y hy
      · rw [List.mem_singleton.1 hy];exact hg ls x q hx
theorem must_cl {w:L} {mo:Option Nat} {ls r:List L} {xs:List Int} {n m:Nat} (h:must w mo ls n = .ok xs r m):∀ n∈xs,inB n:=by
  unfold must at h
  split at h
  · rename_i x q hx
    cases h
    exact ints_cl hx
  · cases h
theorem in0:inB 0:=⟨by decide,by decide⟩
theorem getD_in {l:List Int} (h:∀ n∈l,inB n) (i:Nat):inB (l.getD i 0):=by
  rw [List.getD_eq_getElem?_getD]
  cases e:l[i]? with
  | none=>exact in0
  | some x=>exact h x (List.mem_of_getElem? e)
theorem tails_cl:∀ (ws:List L) (acc:List Int) (ls:List L) (n:Nat) (f:List Int) (r:List L) (m:Nat),tails ws acc ls n = .ok f r m→(∀ x∈acc,inB x)→∀ x∈f,inB x
  | [],acc,ls,n,f,r,m,h,ha=>by rw [tails] at h;cases h;exact ha
  | w::ws,acc,ls,n,f,r,m,h,ha=>by
    rw [tails] at h
    cases e:must w (some 1) ls n with
    | bad b=>rw [e] at h;cases h
    | ok xs q k =>
      rw [e] at h
      have h:tails ws (acc++[xs.getD 0 0]) q k = .ok f r m:=h
      refine tails_cl ws _ _ _ _ _ _ h fun x hx=>?_
      rcases List.mem_append.1 hx with hx | hx
      · exact ha x hx
      · rw [List.mem_singleton.1 hx];exact getD_in (must_cl e) 0
theorem link_in {l:List Int} (h:∀ n∈l,inB n):∀ n∈(link l).l,inB n:=by
  intro n hn
  unfold link Lk.l at hn
  simp only [List.mem_cons,List.not_mem_nil,or_false] at hn
  rcases hn with rfl | rfl | rfl | rfl | rfl | rfl<;>exact getD_in h _
theorem host_in {l:List Int} (h:∀ n∈l,inB n):∀ n∈(host l).l,inB n:=by
  intro n hn
  unfold host Hs.l at hn
  simp only [List.mem_cons,List.not_mem_nil,or_false] at hn
  rcases hn with rfl | rfl<;>exact getD_in h _
theorem parse_clean {ls:List L} {c:Cfg} {r:List L} {n:Nat} (h:parse ls = .ok c r n):Clean c:=by
  unfold parse at h
  cases e1:must wSwitches (some 1) ls 1 with
  | bad b=>rw [e1] at h;cases h
  | ok a l1 n1 =>
  rw [e1] at h
  have h:bind (lnks l1 n1) _=_:=h
  cases e2:lnks l1 n1 with
  | bad b=>rw [e2] at h;cases h
  | ok b l2 n2 =>
  rw [e2] at h
  have h:bind (hsts l2 n2) _=_:=h
  cases e3:hsts l2 n2 with
  | bad b=>rw [e3] at h;cases h
  | ok d l3 n3 =>
  rw [e3] at h
  have h:bind (wgts l3 n3) _=_:=h
  cases e4:wgts l3 n3 with
  | bad b=>rw [e4] at h;cases h
  | ok w l4 n4 =>
  rw [e4] at h
  have h:bind (must wStarts none l4 n4) _=_:=h
  cases e5:must wStarts none l4 n4 with
  | bad b=>rw [e5] at h;cases h
  | ok st l5 n5 =>
  rw [e5] at h
  have h:bind (tails wEnds [] l5 n5) _=_:=h
  cases e6:tails wEnds [] l5 n5 with
  | bad b=>rw [e6] at h;cases h
  | ok f l6 n6 =>
  rw [e6] at h
  have h:done _ l6 n6=_:=h
  unfold done at h
  split at h
  · cases h
    have k6:=tails_cl _ _ _ _ _ _ _ e6 (by simp)
    exact ⟨getD_in (must_cl e1) 0,many_cl (fun ls x r h=>link_in (ints_cl h)) _ _ _ _ _ _ _ e2 (by simp),many_cl (fun ls x r h=>host_in (ints_cl h)) _ _ _ _ _ _ _ e3 (by simp),many_cl (P:=fun l=>∀ n∈l,n<18446744073709551616) (fun ls x r h=>sets_cl h) _ _ _ _ _ _ _ e4 (by simp),must_cl e5,fun n hn=>by
      unfold cfg Cfg.e at hn
      simp only [List.mem_cons,List.not_mem_nil,or_false] at hn
      rcases hn with rfl | rfl | rfl | rfl | rfl | rfl<;>exact getD_in k6 _⟩
  · cases h
theorem none_clean:Clean none40:=⟨in0,by simp [none40],by simp [none40],by simp [none40],by simp [none40],fun n hn=>by
  unfold none40 Cfg.e at hn
  simp only [List.mem_cons,List.not_mem_nil,or_false,or_self] at hn
  rw [hn];exact in0⟩
theorem out_clean (s:L):Clean (out s).1:=by
  unfold out
  cases e:parse (sp 10 s) with
  | bad b=>exact none_clean
  | ok c r n=>exact parse_clean e
theorem w_of {n:Int} (h:inB n):w64 n:=by
  obtain ⟨h1,h2⟩:=h
  unfold big at h1 h2
  exact ⟨by omega,by omega⟩
theorem Clean.wide {c:Cfg} (h:Clean c):Wide c:=⟨w_of h.sw,fun x hx n hn=>w_of (h.links x hx n hn),fun x hx n hn=>w_of (h.hosts x hx n hn),h.weights,fun n hn=>w_of (h.starts n hn),fun n hn=>w_of (h.ends n hn)⟩
theorem flat_mem {α:Type} {f:α→L} {x:α}:∀ {l:List α},x∈l→(f x).length≤(l.flatMap f).length
  | [],h=>by simp at h
  | y::l,h=>by
    rw [List.flatMap_cons,List.length_append]
    rcases List.mem_cons.1 h with rfl | h
    · omega
    · have:=flat_mem (f:=f) h;omega
theorem flat_up {α:Type} {f:α→L} {K:Nat}:∀ {l:List α},(∀ x∈l,(f x).length≤K)→(l.flatMap f).length≤l.length*K
  | [],h=>by simp
  | y::l,h=>by
    have h1:=h y (List.mem_cons_self ..)
    have h2:=flat_up (f:=f) (K:=K) (l:=l) fun x hx=>h x (List.mem_cons_of_mem _ hx)
    rw [List.flatMap_cons,List.length_append,List.length_cons,Nat.succ_mul]
    omega
theorem wline_len (l:List Nat):(wline l).length=8+17*l.length:=by
  unfold wline
  rw [List.length_append,List.length_append,hexs_len]
  show 7+_+1=_
  omega
theorem line_len (w:L) (l:List Int):(line w l).length=w.length+(nums l).length+1:=by
  unfold line
  rw [List.length_append,List.length_append];rfl
theorem short_of {c:Cfg} (h:(text c).length≤1000000):Short c:=by
  rw [text_parts] at h
  simp only [List.length_append] at h
  have h1:=flat_ge (fun x:Lk=>line wLink x.l) (fun x=>line_ge _ _) c.links
  have h2:=flat_ge (fun x:Hs=>line wHost x.l) (fun x=>line_ge _ _) c.hosts
  have h3:=flat_ge wline wline_ge c.weights
  have h4:=nums_ge c.starts
  have h5:=line_len wStarts c.starts
  refine ⟨by omega,by omega,by omega,fun x hx=>?_,by omega⟩
  have h6:=flat_mem (f:=wline) hx
  have h7:=wline_len x
  omega
theorem none_short:Short none40:=⟨by simp [none40],by simp [none40],by simp [none40],by simp [none40],by simp [none40]⟩
theorem line_up (w:L) (l:List Int) (h:∀ n∈l,w64 n):(line w l).length≤w.length+22*l.length+1:=by
  have:=nums_le l h
  rw [line_len];omega
theorem text_short {c:Cfg} (hw:Wide c) (hl:light c=true):(text c).length≤20000:=by
  unfold light at hl
  simp only [Bool.and_eq_true,decide_eq_true_eq,List.all_eq_true] at hl
  obtain ⟨h1,h2,h3,h4,h5⟩:=hl
  have g1:=flat_up (f:=fun x:Lk=>line wLink x.l) (K:=137) (l:=c.links) fun x hx=>line_up wLink x.l (hw.links x hx)
  have g2:=flat_up (f:=fun x:Hs=>line wHost x.l) (K:=49) (l:=c.hosts) fun x hx=>line_up wHost x.l (hw.hosts x hx)
  have g3:=flat_up (f:=wline) (K:=518) (l:=c.weights) fun x hx=>by rw [wline_len];have:=h1 x hx;omega
  have g4:=line_up wStarts c.starts hw.starts
  have g5:=line_up wSwitches [c.sw] fun n hn=>by rw [List.mem_singleton.1 hn];exact hw.sw
  have e:endsT wEnds c.e=line [114,97,116,101] [c.rate]++(line [114,111,111,109] [c.room]++(line [119,105,100,101] [c.wide]++(line [108,101,97,100] [c.lead]++(line [109,97,114,103,105,110] [c.margin]++(line [114,101,116,114,121] [c.retry]++[]))))):=rfl
  have hE:∀ n,n∈c.e→∀ w:L,w.length≤10→(line w [n]).length≤40:=fun n hn w hl=>by
    have h1:=line_up w [n] fun m hm=>by rw [List.mem_singleton.1 hm];exact hw.ends n hn
    simp only [List.length_cons,List.length_nil] at h1
    omega
  have hI:∀ n∈[c.rate,c.room,c.wide,c.lead,c.margin,c.retry],n∈c.e:=fun n h=>h
  have k1:=hE c.rate (hI _ (by simp)) [114,97,116,101] (by decide)
  have k2:=hE c.room (hI _ (by simp)) [114,111,111,109] (by decide)
  have k3:=hE c.wide (hI _ (by simp)) [119,105,100,101] (by decide)
  have k4:=hE c.lead (hI _ (by simp)) [108,101,97,100] (by decide)
  have k5:=hE c.margin (hI _ (by simp)) [109,97,114,103,105,110] (by decide)
  have k6:=hE c.retry (hI _ (by simp)) [114,101,116,114,121] (by decide)
  rw [text_parts,e]
  simp only [List.length_append,List.length_nil]
  have q1:wStarts.length=6:=rfl
  have q2:wSwitches.length=8:=rfl
  have q3:[c.sw].length=1:=rfl
  have m1:=Nat.mul_le_mul_right 137 h2
  have m2:=Nat.mul_le_mul_right 49 h3
  have m3:=Nat.mul_le_mul_right 518 h4
  have m4:=Nat.mul_le_mul_left 22 h5
  omega
end Su
end Go.Proofs.YtgphhbadnjfbjaaDoor
