import Derived.Test.YtgphhbadnjfbjaaDoorSu17
namespace Go.Proofs.YtgphhbadnjfbjaaDoor
open Go.Sx
set_option maxRecDepth 20000
set_option linter.unusedVariables false
namespace Su
def LkOk (x:Lk):Prop:=w64 x.a∧w64 x.pa∧w64 x.b∧w64 x.pb∧w64 x.lo∧w64 x.hi
def HsOk (x:Hs):Prop:=w64 x.at_∧w64 x.port
def WtOk (F:Heap) (p:List Nat × Value):Prop:=Hexs F p.2 p.1∧∀ n∈p.1,n<18446744073709551616
theorem at_of {F:Heap} {lv hv wv sv:Value} {ll:List Lk} {hl:List Hs} {ps:List (List Nat × Value)} {st:List Int} {sw a b d e f g:Int} (h1:Links F lv ll) (h2:Hosts F hv hl) (h3:RowF F 1 (fun x us=>us=wtV x) wv ps) (h4:∀ p∈ps,WtOk F p) (h5:Ints F sv st) :
    At F ⟨sw,ll,hl,ps.map (·.1),st,a,b,d,e,f,g⟩ lv hv wv sv:=⟨h1,h2,⟨ps,rfl,h3,fun p hp=>(h4 p hp).1⟩,h5⟩
end Su
theorem back40_row (F:Heap) (hT:TabF F) (hE:ErrF F) {lv hv wv sv:Value} {ll:List Su.Lk} {hl:List Su.Hs} {ps:List (List Nat × Value)} {st:List Int} (sw a b d e f g:Int) (h1:Su.Links F lv ll) (h2:Su.Hosts F hv hl) (h3:RowF F 1 (fun x us=>us=Su.wtV x) wv ps) (h4:∀ p∈ps,Su.WtOk F p) (h5:Su.Ints F sv st)
    (hn:ps.length≤9223372036854775807) (m:List UInt8) (hm:m.length≤9223372036854775807) :
    NCall Tryd.prog 4 [.agg [.int .i64 sw,.hs lv ll.length,.hs hv hl.length,.hs wv ps.length,.hs sv st.length,.int .i64 a,.int .i64 b,.int .i64 d,.int .i64 e,.int .i64 f,.int .i64 g],.str m] [hpB F] fun r _=>r = .bool true:=by
  have h:=back40_c F hT hE _ lv hv wv sv (Su.at_of (sw:=sw) (a:=a) (b:=b) (d:=d) (e:=e) (f:=f) (g:=g) h1 h2 h3 h4 h5) (fun l hl n hn=>by
    obtain ⟨p,hp,rfl⟩:=List.mem_map.1 hl
    exact (h4 p hp).2 n hn) (by dsimp only;rw [List.length_map];exact hn) m hm
  unfold Su.cs at h
  dsimp only at h
  rwa [List.length_map] at h
end Go.Proofs.YtgphhbadnjfbjaaDoor
