import Derived.Test.YtgphhbadnjfbjaaDoorCard
import Derived.Test.YtgphhbadnjfbjaaDoorErr
namespace Go.Proofs.YtgphhbadnjfbjaaDoor
open Go.Sx
set_option linter.unusedVariables false
theorem iface_of_trod {P:Program} {w:World} {fuel:Nat} {t:TypeId} {cs:List Value} {nm:String} {d:DataW Unit} {p:List MemPlace} (hu:∃ x,P.underlying t=some (.interface x))
    (h:DataW.trod (fun _=>()) P w 0 (fun _=>true) false fuel t cs=some (.iface nm d,p)):∃ u v,cs=[.iface u v]:=by
  obtain ⟨x,hu⟩:=hu
  cases fuel with
  | zero=>cases h
  | succ f =>
    unfold DataW.trod at h
    rw [hu] at h
    dsimp only at h
    split at h
    all_goals first
      | (cases h;done)
      | exact ⟨_,_,rfl⟩
      | (rename_i e _;cases e;done)
      | (rename_i e;cases e;done)
      | skip
theorem err_one {W:World} {l:List (String × DataW Unit)} {n nm:String} {d:DataW Unit} {g0:Nat} (hg':Tryd.prog.globalNamed n=some g0) (ht':(Tryd.prog.globals[g0]?).map (·.type)=some 63)
    (hp:(l.all fun x=>x.2.handleName?.isNone)=true) (h:laidMetH Tryd.prog l W) (hm:(n,(.iface nm d:DataW Unit))∈l):∃ u v,(cellsW W).c ⟨g0,0,none⟩ (.iface u v):=by
  rw [MakeChecks.laidMetH_plain _ _ _ hp] at h
  obtain ⟨ps,h1,_⟩:=h
  obtain ⟨g,t,cs,fuel,p,hg,ht,hv,hd⟩:=laidVars_mem h1 hm
  obtain rfl:=Option.some.inj (hg'.symm.trans hg)
  obtain rfl:=Option.some.inj (ht'.symm.trans ht)
  obtain ⟨u,v,hc⟩:=iface_of_trod ⟨_,Tryd.underlying63⟩ hd
  unfold World.var? at hv
  rw [hg'] at hv
  simp only [Option.bind_some] at hv
  split at hv
  · rename_i cs' t fr e
    injection hv with hv
    subst hv
    refine ⟨u,v,?_⟩
    have hlt:g0<W.heap.size:=(Array.getElem?_eq_some_iff.1 e).1
    refine ⟨hlt,?_⟩
    have h0:cs'[0]?=some (.iface u v):=by
      have:=congrArg (fun l=>l[0]?) hc
      simpa using this
    simp [World.cell?,e,h0]
  · cases hv
theorem errF_of {W:World} {l:List (String × DataW Unit)} {nm nm':String} {d d':DataW Unit} (hp:(l.all fun x=>x.2.handleName?.isNone)=true) (h:laidMetH Tryd.prog l W)
    (hm : ("strconv.ErrSyntax", (.iface nm d : DataW Unit)) ∈ l) (hm' : ("strconv.ErrRange", (.iface nm' d' : DataW Unit)) ∈ l) : ErrF (cellsW W) :=
  ⟨err_one (by kernel_rfl) (by kernel_rfl) hp h hm,err_one (by kernel_rfl) (by kernel_rfl) hp h hm'⟩
end Go.Proofs.YtgphhbadnjfbjaaDoor
