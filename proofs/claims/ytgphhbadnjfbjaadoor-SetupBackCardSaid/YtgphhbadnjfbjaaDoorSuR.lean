import Derived.Test.YtgphhbadnjfbjaaDoorSuQ
import Derived.Test.YtgphhbadnjfbjaaDoorSu10
import Derived.Test.YtgphhbadnjfbjaaDoorSu12
namespace Go.Proofs.YtgphhbadnjfbjaaDoor
set_option maxRecDepth 20000
set_option linter.unusedVariables false
namespace Su
theorem w_of {n:Int} (h:inB n):w64 n:=by
  obtain ⟨h1,h2⟩:=h
  unfold big at h1 h2
  exact ⟨by omega,by omega⟩
theorem Clean.wide {c:Cfg} (h:Clean c):Wide c:=⟨w_of h.sw,fun x hx n hn=>w_of (h.links x hx n hn),fun x hx n hn=>w_of (h.hosts x hx n hn),h.weights,fun n hn=>w_of (h.starts n hn),fun n hn=>w_of (h.ends n hn)⟩
theorem flat_mem {α:Type} {f:α→L} {x:α}:∀ {l:List α},x∈l→(f x).length≤(l.flatMap f).length
  | [],h=>by simp at h
  | y::l,h=>by
    rw [List.flatMap_cons,List.length_append]
    rcases List.mem_cons.1 h with rfl | h
    · omega
    · have:=flat_mem (f:=f) h;omega
theorem flat_up {α:Type} {f:α→L} {K:Nat}:∀ {l:List α},(∀ x∈l,(f x).length≤K)→(l.flatMap f).length≤l.length*K
  | [],h=>by simp
  | y::l,h=>by
    have h1:=h y (List.mem_cons_self ..)
    have h2:=flat_up (f:=f) (K:=K) (l:=l) fun x hx=>h x (List.mem_cons_of_mem _ hx)
    rw [List.flatMap_cons,List.length_append,List.length_cons,Nat.succ_mul]
    omega
theorem wline_len (l:List Nat):(wline l).length=8+17*l.length:=by
  unfold wline
  rw [List.length_append,List.length_append,hexs_len]
  show 7+_+1=_
  omega
theorem line_len (w:L) (l:List Int):(line w l).length=w.length+(nums l).length+1:=by
  unfold line
  rw [List.length_append,List.length_append];rfl
theorem short_of {c:Cfg} (h:(text c).length≤1000000):Short c:=by
  rw [text_parts] at h
  simp only [List.length_append] at h
  have h1:=flat_ge (fun x:Lk=>line wLink x.l) (fun x=>line_ge _ _) c.links
  have h2:=flat_ge (fun x:Hs=>line wHost x.l) (fun x=>line_ge _ _) c.hosts
  have h3:=flat_ge wline wline_ge c.weights
  have h4:=nums_ge c.starts
  have h5:=line_len wStarts c.starts
  refine ⟨by omega,by omega,by omega,fun x hx=>?_,by omega⟩
  have h6:=flat_mem (f:=wline) hx
  have h7:=wline_len x
  omega
theorem line_up (w:L) (l:List Int) (h:∀ n∈l,w64 n):(line w l).length≤w.length+22*l.length+1:=by
  have:=nums_le l h
  rw [line_len];omega
theorem text_short {c:Cfg} (hw:Wide c) (hl:light c=true):(text c).length≤20000:=by
  unfold light at hl
  simp only [Bool.and_eq_true,decide_eq_true_eq,List.all_eq_true] at hl
  obtain ⟨h1,h2,h3,h4,h5⟩:=hl
  have g1:=flat_up (f:=fun x:Lk=>line wLink x.l) (K:=137) (l:=c.links) fun x hx=>line_up wLink x.l (hw.links x hx)
  have g2:=flat_up (f:=fun x:Hs=>line wHost x.l) (K:=49) (l:=c.hosts) fun x hx=>line_up wHost x.l (hw.hosts x hx)
  have g3:=flat_up (f:=wline) (K:=518) (l:=c.weights) fun x hx=>by rw [wline_len];have:=h1 x hx;omega
  have g4:=line_up wStarts c.starts hw.starts
  have g5:=line_up wSwitches [c.sw] fun n hn=>by rw [List.mem_singleton.1 hn];exact hw.sw
  have e:endsT wEnds c.e=line [114,97,116,101] [c.rate]++(line [114,111,111,109] [c.room]++(line [119,105,100,101] [c.wide]++(line [108,101,97,100] [c.lead]++(line [109,97,114,103,105,110] [c.margin]++(line [114,101,116,114,121] [c.retry]++[]))))):=rfl
  have hE:∀ n,n∈c.e→∀ w:L,w.length≤10→(line w [n]).length≤40:=fun n hn w hl=>by
    have h1:=line_up w [n] fun m hm=>by rw [List.mem_singleton.1 hm];exact hw.ends n hn
    simp only [List.length_cons,List.length_nil] at h1
    omega
  have hI:∀ n∈[c.rate,c.room,c.wide,c.lead,c.margin,c.retry],n∈c.e:=fun n h=>h
  have k1:=hE c.rate (hI _ (by simp)) [114,97,116,101] (by decide)
  have k2:=hE c.room (hI _ (by simp)) [114,111,111,109] (by decide)
  have k3:=hE c.wide (hI _ (by simp)) [119,105,100,101] (by decide)
  have k4:=hE c.lead (hI _ (by simp)) [108,101,97,100] (by decide)
  have k5:=hE c.margin (hI _ (by simp)) [109,97,114,103,105,110] (by decide)
  have k6:=hE c.retry (hI _ (by simp)) [114,101,116,114,121] (by decide)
  rw [text_parts,e]
  simp only [List.length_append,List.length_nil]
  have q1:wStarts.length=6:=rfl
  have q2:wSwitches.length=8:=rfl
  have q3:[c.sw].length=1:=rfl
  have m1:=Nat.mul_le_mul_right 137 h2
  have m2:=Nat.mul_le_mul_right 49 h3
  have m3:=Nat.mul_le_mul_right 518 h4
  have m4:=Nat.mul_le_mul_left 22 h5
  omega
theorem clean_of {c:Cfg} (h:times c=true) (hw:∀ l∈c.weights,∀ n∈l,n<18446744073709551616):Clean c:=by
  unfold times at h
  rw [List.all_eq_true] at h
  have hi:∀ n∈nL c,inB n:=fun n hn=>by
    have:=h n hn
    unfold tm at this
    rw [Bool.and_eq_true,decide_eq_true_eq,decide_eq_true_eq] at this
    exact this
  unfold nL at hi
  refine ⟨hi _ (by simp),fun x hx n hn=>hi n ?_,fun x hx n hn=>hi n ?_,hw,fun n hn=>hi n ?_,fun n hn=>hi n ?_⟩
  · exact List.mem_append_left _ (List.mem_append_right _ (List.mem_flatMap.2 ⟨x,hx,hn⟩))
  · exact List.mem_append_right _ (List.mem_flatMap.2 ⟨x,hx,hn⟩)
  · exact List.mem_append_left _ (List.mem_append_left _ (List.mem_append_right _ hn))
  · refine List.mem_append_left _ (List.mem_append_left _ (List.mem_append_left _ (List.mem_cons_of_mem _ hn)))
end Su
end Go.Proofs.YtgphhbadnjfbjaaDoor
