import Derived.Test.YtijkmhmgigaieaaSxK
import Derived.Test.YtijkmhmgigaieaaSxJ
namespace Go.Sx
set_option linter.unusedVariables false
section
variable {P:Program}
theorem FitsSl.refl:∀ l:List AV,FitsSl l l
  | []=>trivial
  | x::l=>⟨by
      by_cases h:x = .any
      · exact .inl h
      · exact .inr ⟨h,rfl⟩,FitsSl.refl l⟩
theorem st_drawFits {id:Nat} {ops:Array Oper} {sl sl':List AV} {m m':List Blk} {Q:Post} (hs:FitsSl sl sl') (hm:MemFits m m') (h:codeK P (.region id ops true) sl' m' Q):codeK P (.region id ops true) sl m Q:=by
  simp only [codeK] at h ⊢
  unfold NDraw at h ⊢
  exact fun id w0 S a w hsim=>h id w0 S a w (hsim.fits hs hm)
end
def cutS {α:Type} (ok:α→Prop) (s:α→List AV) (mm:α→List Blk):Post:=fun e sl m=>e = .normal∧KnowP m (∃ x,ok x∧FitsSl sl (s x)∧MemFits m (mm x))
theorem cut_done {α:Type} {ok:α→Prop} {s:α→List AV} {mm:α→List Blk} {sl:List AV} {m:List Blk} (x:α) (hx:ok x) (hs:FitsSl sl (s x)) (hm:MemFits m (mm x)):cutS ok s mm .normal sl m :=
  ⟨rfl,KnowP.mk fun _=>⟨x,hx,hs,hm⟩⟩
theorem st_drawCut {P:Program} {Q:Post} {sl:List AV} {m:List Blk} {id:Nat} {ops:Array Oper} {α:Type} (ok:α→Prop) (us:α→List Up) (ms:α→List UpB)
    (h1:codeK P (.region id ops true) sl m (cutS ok (fun x=>autoL sl (us x)) (fun x=>autoM m (ms x))))
    (h2:∀ x,ok x→∀ K:List AV→List Blk→Prop,(∀ sl' m',Q .normal sl' m'→K sl' m')→autoK sl (us x) fun sl'=>autoMK m (ms x) fun m'=>K sl' m'):codeK P (.region id ops true) sl m Q:=by
  simp only [codeK] at h1 ⊢
  unfold NDraw at h1 ⊢
  intro id w0 S a w hsim
  refine wp_mono (h1 id w0 S a w hsim) fun e a w hq=>?_
  obtain ⟨rfl,sl',m',h3,h4⟩:=hq
  obtain ⟨x,hx,hs,hm⟩:=h3.2.get ⟨w,h4.mem⟩
  exact ⟨rfl,_,_,autoMK_spec _ _ (autoK_spec _ _ (h2 x hx (fun sl' m'=>Q .normal sl' m') fun _ _ h=>h)),h4.fits hs hm⟩
end Go.Sx
