import Derived.Test.YtgphhbadnjfbjaaDoorSxC
namespace Go.Proofs.YtgphhbadnjfbjaaDoor
open Go.Sx
theorem NCall.grow {α:Type} {P:Program} {f:FuncId} {args:List AV} {m:List Blk} {F:Heap} {t:TypeId} {sz:Nat} (enc:α→List Value) (cs:List α→List AV) (K:List α→Prop)
    (h:NCall P f args m fun r m'=>∃ u l,K l∧r.den=slOf u∧MemFits m' [hpB F,⟨addrOf u,cs l,.row u t sz l.length⟩]) (hcs:∀ l,denL (cs l)=l.flatMap enc) (hsz:∀ x,(enc x).length=sz) :
    NCall P f args m fun r m'=>∃ F' u l,K l∧F.le F'∧r = .hs u l.length∧m'=[hpB F']∧RowF F' sz (fun x us=>us=enc x) u l:=by
  refine Go.Sx.NCall.know h fun r m' ⟨u,l,hK,hr,hm⟩ ⟨w,hw⟩=>?_
  have hok:=((hm w hw).1.row (List.mem_cons_of_mem _ (List.mem_singleton.2 rfl))).1
  exact ⟨.hs u l.length,_,hr.symm,hm.trans (MemFits.freeze (m:=[])),_,u,l,hK,addF.old,rfl,rfl,rowF_new hok (hcs l) fun x _=>hsz x⟩
end Go.Proofs.YtgphhbadnjfbjaaDoor
