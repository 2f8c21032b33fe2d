import Derived.Test.YtaojbkphcnailaaDoorJ30
import Derived.Test.YtaojbkphcnailaaDoorJ35
import Derived.Test.YtaojbkphcnailaaDoorJ13
namespace Go.Proofs.YtaojbkphcnailaaDoor
open Go.Sx
set_option maxRecDepth 20000
set_option linter.unusedSimpArgs false
set_option linter.unusedVariables false
set_option maxHeartbeats 4000000
set_option linter.unusedVariables false
namespace Ps
def exX:Po.T:=.mk 4 Po.noneP 0 0 [.mk 3 Po.noneP 0 0 [.mk 2 Po.noneP 1 3 [],.mk 2 Po.noneP 4 1 []],.mk 1 (.mk 2 0 0 []) 0 0 []]
def exT:List UInt8:=[100,115,116,32,58,61,32,51,59,32,112,111,114,116,32,58,61,32,49,32,124,32,100,114,111,112]
def exW:List Lx.B:=[W [100,115,116],S wSet,Nm 3,S wSemi,W [112,111,114,116],S wSet,Nm 1,S wBar,W wDrop]
theorem ex_words:bs exT=some exW:=by
  have h3:∀ y,free y→bs (51::y)=(bs y).map (Nm 3::·):=fun y hy=>by
    have:=bs_num (v:=3) (by decide) (by decide) hy
    rwa [show Lib.itoa 3=[51] by decide +kernel] at this
  have h1:∀ y,free y→bs (49::y)=(bs y).map (Nm 1::·):=fun y hy=>by
    have:=bs_num (v:=1) (by decide) (by decide) hy
    rwa [show Lib.itoa 1=[49] by decide +kernel] at this
  show bs ([100,115,116]++(32::58::61::32::51::59::32::([112,111,114,116]++(32::58::61::32::49::32::124::32::(wDrop++[])))))=_
  rw [bs_word (by decide) (by decide) (free_sp _),bs_sp,bs_set,bs_sp,h3 _ (free_semi _),bs_sign _ (by decide),bs_sp,bs_word (by decide) (by decide) (free_sp _),bs_sp,bs_set,bs_sp,h1 _ (free_sp _),bs_sp,bs_sign _ (by decide),bs_sp,bs_word (by decide) (by decide) free_nil,bs_nil]
  rfl
theorem ex_parse:whole (exW++[(⟨4,0,[]⟩:Lx.B)]) (rows (exW++[(⟨4,0,[]⟩:Lx.B)]) (step (exW++[(⟨4,0,[]⟩:Lx.B)]) (exW++[(⟨4,0,[]⟩:Lx.B)]).length) 0) = .ok exX 0:=by rfl
theorem ex_text:Po.text exX=[40,100,115,116,32,58,61,32,51,59,32,112,111,114,116,32,58,61,32,49,41,32,124,32,100,114,111,112]:=by decide +kernel
theorem ex_fits:Po.fits exX=true:=by decide +kernel
end Ps
theorem parse27_ok (tx:List UInt8) (hs:tx.length≤4000) (ls:List Lx.B) (hw:Ps.bs tx=some ls) (hl:ls.length≤500) (x:Po.T) (hp:Ps.whole (ls++[(⟨4,0,[]⟩:Lx.B)]) (Ps.rows (ls++[(⟨4,0,[]⟩:Lx.B)]) (Ps.step (ls++[(⟨4,0,[]⟩:Lx.B)]) (ls++[(⟨4,0,[]⟩:Lx.B)]).length) 0) = .ok x 0) (F:Heap) :
    NCall Tryd.prog 7 [.str tx] [hpB F] fun r m=>∃ G pu u,F.le G∧Po.At G x pu u∧r = .tup [.agg (Po.cs x pu u),.int .i64 0,.int .i64 0]∧m=[hpB G]:=by
  obtain ⟨L,hL,hm⟩:=Ps.toks_of hw
  have hlen:L.length≤500:=by rw [← List.length_map (f:=(·.1)),hm];exact hl
  have hb:=Lx.res_b tx L
  rw [hm] at hb
  refine (parse27_c tx hs L hL hlen F).mono fun r m h=>?_
  rw [hb,hp] at h
  rcases h with ⟨x',G,pu,u,h1,h2,h3,h4,h5⟩ | ⟨j,y,G,h1,_⟩
  · cases h1
    exact ⟨G,pu,u,h2,h3,h4,h5⟩
  · cases h1
theorem awake29_c (F:Heap) (hT:TabF F):NCall Tryd.prog 6 [] [hpB F] fun r m=>r = .bool true∧m=[hpB F]:=by
  refine NCall.fits (K:=fun r m=>r = .bool true∧∃ F',F.le F'∧MemFits m [hpB F']) ?_ fun r m' ⟨h1,F',h2,h3⟩=>⟨r,_,rfl,h3.trans (MemFits.less h2 []),h1,rfl⟩
  have cp:=parse27_ok Ps.exT (by decide) Ps.exW Ps.ex_words (by decide) Ps.exX Ps.ex_parse F
  have ct:=fun G pu u (h:F.le G) (hx:Po.At G Ps.exX pu u)=>text27_c G (hT.mono h) _ Ps.exX pu u (Nat.le_refl _) (by decide +kernel) Ps.ex_fits hx
  rw [Ps.ex_text] at ct
  unfold Ps.exT at cp
  refine ncall_of Tryd.func6 rfl (by decide) ?_
  simp only [Po.cs,Ps.exX,Po.T.k,Po.T.p,Po.T.f,Po.T.v,Po.T.l,Pd.T.k,Pd.T.f,Pd.T.v,Pd.T.l,Po.noneP] at cp ct
  (repeat' (first|(with_reducible first|(refine hK _ _ ?_;clear hK K)|(refine hK _ ?_;clear hK K))|((with_reducible first|refine z25 ?_|refine z26 ?_);intro K hK;(conv=>whnf))|(with_reducible refine z0 ?_)|((first|((with_reducible refine NIf.yes ?s ?_);case s=>(simp ;done))|(with_reducible refine NN.a5 ?_)|((with_reducible refine NH.mk ?s ?_);case s=>(and_intros<;>first|with_reducible rfl|((with_reducible refine gOnes ?_);rfl)|((with_reducible refine gLen ?_);rfl)))|((with_reducible refine NCall.isF 7 ?_);refine NCall.subw [0] _ _ (cp) rfl (by decide) rfl ?_;rintro _ _ ⟨G,pu,u,h1,h2,rfl,rfl⟩;refine ⟨Nat.le_of_ble_eq_true rfl,_,rfl,?_⟩)|((with_reducible refine NCall.isF 17 ?_);refine NCall.subE [0] (ct G pu u h1 h2) rfl (by decide) rfl rfl ?_))<;>(conv=>whnf))|(with_reducible first|refine z3 ?_|refine z4 ?_|refine z1 ?_|refine z2 ?_)|((with_reducible refine gF ?_);(refine z33 rfl ?_;intro K hK;(conv=>whnf)))|((intro _;skip)<;>(conv=>whnf))))
  have hok:=h2.l.ok
  simp only [Po.T.l] at hok
  (repeat' (first|(with_reducible first|(refine hK _ _ ?_;clear hK K)|(refine hK _ ?_;clear hK K))|((with_reducible first|refine z25 ?_|refine z26 ?_);intro K hK;(conv=>whnf))|(with_reducible refine z0 ?_)|((first|((with_reducible refine NIf.yes ?s ?_);case s=>(simp ;done))|((with_reducible refine NH.mk ?s ?_);case s=>(and_intros<;>omega)))<;>(conv=>whnf))|(with_reducible first|refine z8 ?_|refine z1 ?_|refine z2 ?_)|((with_reducible refine gR ?_);(refine z31 rfl ?_;intro K hK;(conv=>whnf)))))
  all_goals exact ⟨rfl,G,h1,MemFits.pre 1 rfl⟩
end Go.Proofs.YtaojbkphcnailaaDoor
namespace Go.Proofs.YtaojbkphcnailaaDoor
open Go.Sx
set_option maxRecDepth 20000
set_option linter.unusedSimpArgs false
set_option linter.unusedVariables false
set_option maxHeartbeats 4000000
set_option linter.unusedVariables false
section
variable (F:Heap)
omit F in
end
end Go.Proofs.YtaojbkphcnailaaDoor
