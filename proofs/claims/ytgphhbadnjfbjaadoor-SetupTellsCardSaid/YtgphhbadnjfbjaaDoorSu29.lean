import Derived.Test.YtgphhbadnjfbjaaDoorSu28
namespace Go.Proofs.YtgphhbadnjfbjaaDoor
open Go.Sx
set_option maxRecDepth 20000
set_option linter.unusedVariables false
namespace Su
theorem wide_of {F:Heap} {ll:List Lk} {hl:List Hs} {ps:List (List Nat × Value)} {st:List Int} {sw a b d e f g:Int} (h1:∀ x∈ll,LkOk x) (h2:∀ x∈hl,HsOk x) (h3:∀ p∈ps,WtOk F p) (h4:∀ n∈st,w64 n) (r0:w64 sw) (r1:w64 a) (r2:w64 b) (r3:w64 d) (r4:w64 e) (r5:w64 f) (r6:w64 g) :
    Wide ⟨sw,ll,hl,ps.map (·.1),st,a,b,d,e,f,g⟩:=by
  refine ⟨r0,fun x hx n hn=>?_,fun x hx n hn=>?_,fun l hl n hn=>?_,h4,fun n hn=>?_⟩
  · obtain ⟨k1,k2,k3,k4,k5,k6⟩:=h1 x hx
    simp only [Lk.l,List.mem_cons,List.not_mem_nil,or_false] at hn
    rcases hn with rfl | rfl | rfl | rfl | rfl | rfl<;>assumption
  · obtain ⟨k1,k2⟩:=h2 x hx
    simp only [Hs.l,List.mem_cons,List.not_mem_nil,or_false] at hn
    rcases hn with rfl | rfl<;>assumption
  · obtain ⟨p,hp,rfl⟩:=List.mem_map.1 hl
    exact (h3 p hp).2 n hn
  · simp only [Cfg.e,List.mem_cons,List.not_mem_nil,or_false] at hn
    rcases hn with rfl | rfl | rfl | rfl | rfl | rfl<;>assumption
end Su
theorem tells40_row (F:Heap) (hT:TabF F) (hE:ErrF F) {lv hv wv sv:Value} {ll:List Su.Lk} {hl:List Su.Hs} {ps:List (List Nat × Value)} {st:List Int} {sw a b d e f g:Int} (h1:Su.Links F lv ll) (g1:∀ x∈ll,Su.LkOk x) (h2:Su.Hosts F hv hl) (g2:∀ x∈hl,Su.HsOk x) (h3:RowF F 1 (fun x us=>us=Su.wtV x) wv ps) (h4:∀ p∈ps,Su.WtOk F p) (h5:Su.Ints F sv st) (g5:∀ n∈st,Su.w64 n)
    (hn:ps.length≤9223372036854775807) (r0:Su.w64 sw) (r1:Su.w64 a) (r2:Su.w64 b) (r3:Su.w64 d) (r4:Su.w64 e) (r5:Su.w64 f) (r6:Su.w64 g)
    {lv' hv' wv' sv':Value} {ll':List Su.Lk} {hl':List Su.Hs} {ps':List (List Nat × Value)} {st':List Int} {sw' a' b' d' e' f' g':Int} (h1':Su.Links F lv' ll') (g1':∀ x∈ll',Su.LkOk x) (h2':Su.Hosts F hv' hl') (g2':∀ x∈hl',Su.HsOk x) (h3':RowF F 1 (fun x us=>us=Su.wtV x) wv' ps') (h4':∀ p∈ps',Su.WtOk F p) (h5':Su.Ints F sv' st') (g5':∀ n∈st',Su.w64 n)
    (hn':ps'.length≤9223372036854775807) (r0':Su.w64 sw') (r1':Su.w64 a') (r2':Su.w64 b') (r3':Su.w64 d') (r4':Su.w64 e') (r5':Su.w64 f') (r6':Su.w64 g')
    (s:List UInt8) (hs:s.length≤9223372036854775807) :
    NCall Tryd.prog 3 [.agg [.int .i64 sw,.hs lv ll.length,.hs hv hl.length,.hs wv ps.length,.hs sv st.length,.int .i64 a,.int .i64 b,.int .i64 d,.int .i64 e,.int .i64 f,.int .i64 g],.agg [.int .i64 sw',.hs lv' ll'.length,.hs hv' hl'.length,.hs wv' ps'.length,.hs sv' st'.length,.int .i64 a',.int .i64 b',.int .i64 d',.int .i64 e',.int .i64 f',.int .i64 g'],.str s] [hpB F] fun r _=>r = .bool true:=by
  have h:=tells40_c F hT hE _ _ lv hv wv sv lv' hv' wv' sv' (Su.at_of (sw:=sw) (a:=a) (b:=b) (d:=d) (e:=e) (f:=f) (g:=g) h1 h2 h3 h4 h5) (Su.at_of (sw:=sw') (a:=a') (b:=b') (d:=d') (e:=e') (f:=f') (g:=g') h1' h2' h3' h4' h5') (Su.wide_of g1 g2 h4 g5 r0 r1 r2 r3 r4 r5 r6) (by dsimp only;rw [List.length_map];exact hn) (Su.wide_of g1' g2' h4' g5' r0' r1' r2' r3' r4' r5' r6') (by dsimp only;rw [List.length_map];exact hn') s hs
  unfold Su.cs at h
  dsimp only at h
  rwa [List.length_map,List.length_map] at h
end Go.Proofs.YtgphhbadnjfbjaaDoor
