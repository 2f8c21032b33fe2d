import Derived.Test.YtgphhbadnjfbjaaDoorLib1
import Derived.Test.YtgphhbadnjfbjaaDoorNumP
namespace Go.Proofs.YtgphhbadnjfbjaaDoor
open Go.Sx Go.RowKit
set_option maxRecDepth 20000
set_option linter.unusedVariables false
def ErrF (F:Heap):Prop:=(∃ u v,F.c ⟨0,0,none⟩ (.iface u v))∧∃ u v,F.c ⟨1,0,none⟩ (.iface u v)
theorem ErrF.mono {F G:Heap} (h:F.le G) (hF:ErrF F):ErrF G:=by
  obtain ⟨⟨u,v,h1⟩,u',v',h2⟩:=hF
  exact ⟨⟨u,v,h.c _ _ h1⟩,u',v',h.c _ _ h2⟩
theorem ncall_kept {P:Program} {f:FuncId} {args:List AV} {m:List Blk} {K:AV→Prop} (hen:∀ (us:Array Value) (w:World),(callFunc f us).run P w = .ok (.enter f us) w)
    (h:∀ w,MemOk m w→Calls P f (denL args).toArray w fun e w'=>∃ r,K r∧e = .returned r.den∧w'.os=w.os∧w'.tape=w.tape∧w'.output=w.output∧w.heap.size≤w'.heap.size∧∀ k,k<w.heap.size→w'.heap[k]?=w.heap[k]?):NCall P f args m fun r' m'=>K r'∧m'=m:=by
  rw [NCall_iff]
  refine ⟨hen,fun w hm=>(h w hm).mono fun e w' ⟨r,hr,he,h1,h2,h3,h4,h5⟩=>⟨r,m,⟨hr,rfl⟩,he,?_,⟨h1,h2,h3,h4,fun k hk _=>h5 k hk⟩,fun _ hb=>.inl hb,fun _ hb=>.inl hb⟩⟩
  exact hm.keep h4 fun k hk b hb=>h5 b ((hm.holds k hk).lt hb)
end Go.Proofs.YtgphhbadnjfbjaaDoor
