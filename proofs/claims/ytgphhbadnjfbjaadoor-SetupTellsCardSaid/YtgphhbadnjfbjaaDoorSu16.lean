import Derived.Test.YtgphhbadnjfbjaaDoorSu13
import Derived.Test.YtgphhbadnjfbjaaDoorLib2
namespace Go.Proofs.YtgphhbadnjfbjaaDoor
open Go.Sx
set_option maxRecDepth 20000
set_option linter.unusedSimpArgs false
set_option linter.unusedVariables false
set_option maxHeartbeats 8000000
set_option linter.unusedVariables false
theorem ends40_c (F:Heap) (x0 x1 x2 x3 x4:AV) (e0 e1 e2 e3 e4 e5:Int) :
    NCall Tryd.prog 30 [.agg [x0,x1,x2,x3,x4,.int .i64 e0,.int .i64 e1,.int .i64 e2,.int .i64 e3,.int .i64 e4,.int .i64 e5]] [hpB F] fun r m=>∃ G v,F.le G∧Su.Ints G v [e0,e1,e2,e3,e4,e5]∧r = .hs v 6∧m=[hpB G]:=by
  refine (NCall.grow (F:=F) (t:=3) Su.intV Su.intAV (fun l=>l=[e0,e1,e2,e3,e4,e5]) ?_ Su.intAV_den fun _=>rfl).mono fun r m ⟨G,v,l,h1,h2,h3,h4,h5⟩=>by
    subst h1
    exact ⟨G,v,h2,h5,h3,h4⟩
  refine ncall_of Tryd.func30 rfl (by decide) ?_
  (repeat' (first|(with_reducible first|(refine hK _ _ ?_;clear hK K)|(refine hK _ ?_;clear hK K))|((with_reducible refine z25 ?_);intro K hK;(conv=>whnf))|(with_reducible refine z0 ?_)|((first|(with_reducible refine NN.a5 ?_)|((with_reducible refine NH.mk ?s ?_);case s=>(and_intros<;>first|with_reducible rfl|((with_reducible refine gLen ?_);rfl)|omega)))<;>(conv=>whnf))|(with_reducible first|refine z3 ?_|refine z4 ?_|refine z8 ?_|refine z1 ?_|refine z2 ?_)|((with_reducible refine gR ?_);(refine z31 rfl ?_;intro K hK;(conv=>whnf)))|((with_reducible refine gF ?_);(refine z33 rfl ?_;intro K hK;(conv=>whnf)))|((intro _;skip)<;>(conv=>whnf))))
  all_goals exact ⟨_,_,rfl,rfl,MemFits.pick [0,2] (by decide) rfl⟩
theorem refsame40_c (F:Heap) (c d:Su.Cfg) (lv hv wv sv lw hw ww sw:Value) (hc:Su.At F c lv hv wv sv) (hd:Su.At F d lw hw ww sw) (sc:Su.Short c) (sd:Su.Short d) :
    NCall Tryd.prog 13 [.agg (Su.cs c lv hv wv sv),.agg (Su.cs d lw hw ww sw)] [hpB F] fun r m=>r = .bool (decide (c=d))∧∃ G,F.le G∧m=[hpB G]:=by
  refine NCall.fits (K:=fun r m=>r = .bool (decide (c=d))∧∃ G,F.le G∧MemFits m [hpB G]) ?_ fun r m' ⟨h,G,h1,h2⟩=>⟨r,_,rfl,h2,h,G,h1,rfl⟩
  have cS:=fun G (h:F.le G)=>refI_c G sv sw c.starts d.starts (hc.mono h).s (hd.mono h).s (by have:=sc.s;omega) (by have:=sd.s;omega)
  have cE:∀ G v w,Su.Ints G v c.e→Su.Ints G w d.e→NCall Tryd.prog 36 [.hs v 6,.hs w 6] [hpB G] fun r m=>r = .bool (decide (c.e=d.e))∧m=[hpB G]:=fun G v w h1 h2=>refI_c G v w c.e d.e h1 h2 (by show 6≤_;omega) (by show 6≤_;omega)
  have mo:∀ {G G':Heap} {v:Value} {l:List Int},G.le G'→Su.Ints G v l→Su.Ints G' v l:=fun h k=>RowF.mono h (fun _ _ h=>h) k
  have hno:∀ {p:Prop},(c=d→p)→¬ p→AV.bool false=AV.bool (decide (c=d)):=fun h1 h2=>su_bF fun e=>h2 (h1 e)
  have ce:∀ G,F.le G→NCall Tryd.prog 30 [.agg (Su.cs c lv hv wv sv)] [hpB G] fun r m=>∃ G' v,G.le G'∧Su.Ints G' v c.e∧r = .hs v 6∧m=[hpB G']:=fun G _=>ends40_c G _ _ _ _ _ _ _ _ _ _ _
  have de:∀ G,F.le G→NCall Tryd.prog 30 [.agg (Su.cs d lw hw ww sw)] [hpB G] fun r m=>∃ G' v,G.le G'∧Su.Ints G' v d.e∧r = .hs v 6∧m=[hpB G']:=fun G _=>ends40_c G _ _ _ _ _ _ _ _ _ _ _
  have hok1:=hc.l.ok
  have hok2:=hc.h.ok
  have hok3:=hc.s.ok
  have hok4:=hc.w.ok
  have hok5:=hd.l.ok
  have hok6:=hd.h.ok
  have hok7:=hd.s.ok
  have hok8:=hd.w.ok
  unfold Su.cs at ce de ⊢
  refine ncall_of Tryd.func13 rfl (by decide) ?_
  by_cases h0:c.sw=d.sw
  rotate_left
  · (repeat' (first|(with_reducible first|(refine hK _ _ ?_;clear hK K)|(refine hA ?_;clear hA hB A B)|(refine hK _ ?_;clear hK K))|((with_reducible refine z25 ?_);intro K hK;(conv=>whnf))|(with_reducible refine z0 ?_)|((first|((with_reducible refine NIf.yes ?s ?_);case s=>(simp [h0];done))|(with_reducible refine NN.a5 ?_)|((with_reducible refine NH.mk ?s ?_);case s=>(and_intros<;>rfl)))<;>(conv=>whnf))|(with_reducible refine st_ordSout ?_)|((with_reducible refine gNOK ?_);(first|(refine st_ordK1 rfl (by kernel_rfl) rfl ?_;intro K hK;(conv=>whnf))|(refine st_ordK1g rfl (by kernel_rfl) rfl ?_;intro K hK;(conv=>whnf))|refine st_ordK0 rfl (by kernel_rfl) ?_|refine st_ordKA rfl rfl (by kernel_rfl) (by intro h;cases h) ?_))|((with_reducible refine gNEK ?_);(first|(refine st_eachKg rfl ?_ ?_;(intro K hK;(conv=>whnf)))|exact st_eachK0))|((with_reducible refine gX ?_);(first|refine st_orderS [0] rfl rfl (by kernel_rfl) _ rfl ?_|(with_reducible first|refine z3 ?_|refine z4 ?_|refine z8 ?_)|((with_reducible refine z29 ?_);intro A B hA hB;(conv=>whnf))))|(with_reducible first|refine z1 ?_|refine z2 ?_|refine z12 ?_)|((with_reducible refine gR ?_);(refine z31 rfl ?_;intro K hK;(conv=>whnf)))|((with_reducible refine gF ?_);(refine z33 rfl ?_;intro K hK;(conv=>whnf)))|((intro _;skip)<;>(conv=>whnf))))
    all_goals exact ⟨hno (fun e=>by rw [e]) h0,F,F.le_refl,MemFits.pre 1 rfl⟩
  by_cases h1:c.links.length=d.links.length
  rotate_left
  · (repeat' (first|(with_reducible first|(refine hK _ _ ?_;clear hK K)|(refine hA ?_;clear hA hB A B)|(refine hK _ ?_;clear hK K))|((with_reducible refine z25 ?_);intro K hK;(conv=>whnf))|(with_reducible refine z0 ?_)|((first|((with_reducible refine NIf.yes ?s ?_);case s=>(simp [h0];done))|((with_reducible refine NIf.no ?s ?_);case s=>(simp [h0];done))|with_reducible refine NIf.not_ ?_|((with_reducible refine NIf.decN ?s ?_);case s=>omega)|(with_reducible refine NN.a5 ?_)|((with_reducible refine NH.mk ?s ?_);case s=>(and_intros<;>first|omega|rfl)))<;>(conv=>whnf))|(with_reducible refine st_ordSout ?_)|((with_reducible refine gNOK ?_);(first|(refine st_ordK1 rfl (by kernel_rfl) rfl ?_;intro K hK;(conv=>whnf))|(refine st_ordK1g rfl (by kernel_rfl) rfl ?_;intro K hK;(conv=>whnf))|refine st_ordK0 rfl (by kernel_rfl) ?_|refine st_ordKA rfl rfl (by kernel_rfl) (by intro h;cases h) ?_))|((with_reducible refine gNEK ?_);(first|(refine st_eachKg rfl ?_ ?_;(intro K hK;(conv=>whnf)))|exact st_eachK0))|((with_reducible refine gX ?_);(first|refine st_orderS [0] rfl rfl (by kernel_rfl) _ rfl ?_|(with_reducible first|refine z3 ?_|refine z4 ?_|refine z8 ?_)|((with_reducible refine z29 ?_);intro A B hA hB;(conv=>whnf))))|(with_reducible first|refine z1 ?_|refine z2 ?_|refine z12 ?_)|((with_reducible refine gR ?_);(refine z31 rfl ?_;intro K hK;(conv=>whnf)))|((with_reducible refine gF ?_);(refine z33 rfl ?_;intro K hK;(conv=>whnf)))|((intro _;skip)<;>(conv=>whnf))))
    all_goals first | exact ⟨hno (fun e=>by rw [e]) h1,F,F.le_refl,MemFits.pre 1 rfl⟩ | (exfalso;omega)
  by_cases h2:c.hosts.length=d.hosts.length
  rotate_left
  · (repeat' (first|(with_reducible first|(refine hK _ _ ?_;clear hK K)|(refine hA ?_;clear hA hB A B)|(refine hK _ ?_;clear hK K))|((with_reducible refine z25 ?_);intro K hK;(conv=>whnf))|(with_reducible refine z0 ?_)|((first|((with_reducible refine NIf.yes ?s ?_);case s=>(simp [h0];done))|((with_reducible refine NIf.no ?s ?_);case s=>(simp [h0];done))|with_reducible refine NIf.not_ ?_|((with_reducible refine NIf.decY ?s ?_);case s=>omega)|((with_reducible refine NIf.decN ?s ?_);case s=>omega)|(with_reducible refine NN.a5 ?_)|((with_reducible refine NH.mk ?s ?_);case s=>(and_intros<;>first|omega|rfl)))<;>(conv=>whnf))|(with_reducible refine st_ordSout ?_)|((with_reducible refine gNOK ?_);(first|(refine st_ordK1 rfl (by kernel_rfl) rfl ?_;intro K hK;(conv=>whnf))|(refine st_ordK1g rfl (by kernel_rfl) rfl ?_;intro K hK;(conv=>whnf))|refine st_ordK0 rfl (by kernel_rfl) ?_|refine st_ordKA rfl rfl (by kernel_rfl) (by intro h;cases h) ?_))|((with_reducible refine gNEK ?_);(first|(refine st_eachKg rfl ?_ ?_;(intro K hK;(conv=>whnf)))|exact st_eachK0))|((with_reducible refine gX ?_);(first|refine st_orderS [0] rfl rfl (by kernel_rfl) _ rfl ?_|(with_reducible first|refine z3 ?_|refine z4 ?_|refine z8 ?_)|((with_reducible refine z29 ?_);intro A B hA hB;(conv=>whnf))))|(with_reducible first|refine z1 ?_|refine z2 ?_|refine z12 ?_)|((with_reducible refine gR ?_);(refine z31 rfl ?_;intro K hK;(conv=>whnf)))|((with_reducible refine gF ?_);(refine z33 rfl ?_;intro K hK;(conv=>whnf)))|((intro _;skip)<;>(conv=>whnf))))
    all_goals first | exact ⟨hno (fun e=>by rw [e]) h2,F,F.le_refl,MemFits.pre 1 rfl⟩ | (exfalso;omega)
  by_cases h3:c.weights.length=d.weights.length
  rotate_left
  · (repeat' (first|(with_reducible first|(refine hK _ _ ?_;clear hK K)|(refine hA ?_;clear hA hB A B)|(refine hK _ ?_;clear hK K))|((with_reducible refine z25 ?_);intro K hK;(conv=>whnf))|(with_reducible refine z0 ?_)|((first|((with_reducible refine NIf.yes ?s ?_);case s=>(simp [h0];done))|((with_reducible refine NIf.no ?s ?_);case s=>(simp [h0];done))|with_reducible refine NIf.not_ ?_|((with_reducible refine NIf.decY ?s ?_);case s=>omega)|((with_reducible refine NIf.decN ?s ?_);case s=>omega)|(with_reducible refine NN.a5 ?_)|((with_reducible refine NH.mk ?s ?_);case s=>(and_intros<;>first|omega|rfl)))<;>(conv=>whnf))|(with_reducible refine st_ordSout ?_)|((with_reducible refine gNOK ?_);(first|(refine st_ordK1 rfl (by kernel_rfl) rfl ?_;intro K hK;(conv=>whnf))|(refine st_ordK1g rfl (by kernel_rfl) rfl ?_;intro K hK;(conv=>whnf))|refine st_ordK0 rfl (by kernel_rfl) ?_|refine st_ordKA rfl rfl (by kernel_rfl) (by intro h;cases h) ?_))|((with_reducible refine gNEK ?_);(first|(refine st_eachKg rfl ?_ ?_;(intro K hK;(conv=>whnf)))|exact st_eachK0))|((with_reducible refine gX ?_);(first|refine st_orderS [0] rfl rfl (by kernel_rfl) _ rfl ?_|(with_reducible first|refine z3 ?_|refine z4 ?_|refine z8 ?_)|((with_reducible refine z29 ?_);intro A B hA hB;(conv=>whnf))))|(with_reducible first|refine z1 ?_|refine z2 ?_|refine z12 ?_)|((with_reducible refine gR ?_);(refine z31 rfl ?_;intro K hK;(conv=>whnf)))|((with_reducible refine gF ?_);(refine z33 rfl ?_;intro K hK;(conv=>whnf)))|((intro _;skip)<;>(conv=>whnf))))
    all_goals first | exact ⟨hno (fun e=>by rw [e]) h3,F,F.le_refl,MemFits.pre 1 rfl⟩ | (exfalso;omega)
  by_cases h4:c.starts=d.starts
  rotate_left
  · rw [decide_eq_false h4] at cS
    (repeat' (first|(with_reducible first|(refine hK _ _ ?_;clear hK K)|(refine hA ?_;clear hA hB A B)|(refine hK _ ?_;clear hK K))|((with_reducible refine z25 ?_);intro K hK;(conv=>whnf))|(with_reducible refine z0 ?_)|((first|((with_reducible refine NIf.yes ?s ?_);case s=>(simp [h0];done))|((with_reducible refine NIf.no ?s ?_);case s=>(simp [h0];done))|with_reducible refine NIf.not_ ?_|((with_reducible refine NIf.decY ?s ?_);case s=>omega)|(with_reducible refine NN.a5 ?_)|((with_reducible refine NH.mk ?s ?_);case s=>(and_intros<;>first|((with_reducible refine gKept ?_);exact rfl)|omega|rfl))|((with_reducible refine NCall.isF 36 ?_);refine NCall.subE [0] (cS F F.le_refl) rfl (by decide) rfl rfl ?_))<;>(conv=>whnf))|(with_reducible refine st_ordSout ?_)|((with_reducible refine gNOK ?_);(first|(refine st_ordK1 rfl (by kernel_rfl) rfl ?_;intro K hK;(conv=>whnf))|(refine st_ordK1g rfl (by kernel_rfl) rfl ?_;intro K hK;(conv=>whnf))|refine st_ordK0 rfl (by kernel_rfl) ?_|refine st_ordKA rfl rfl (by kernel_rfl) (by intro h;cases h) ?_))|((with_reducible refine gNEK ?_);(first|(refine st_eachKg rfl ?_ ?_;(intro K hK;(conv=>whnf)))|exact st_eachK0))|((with_reducible refine gX ?_);(first|refine st_orderS [0] rfl rfl (by kernel_rfl) _ rfl ?_|(with_reducible first|refine z3 ?_|refine z4 ?_|refine z8 ?_)|((with_reducible refine z29 ?_);intro A B hA hB;(conv=>whnf))))|(with_reducible first|refine z1 ?_|refine z2 ?_|refine z12 ?_)|((with_reducible refine gR ?_);(refine z31 rfl ?_;intro K hK;(conv=>whnf)))|((with_reducible refine gF ?_);(refine z33 rfl ?_;intro K hK;(conv=>whnf)))|((intro _;skip)<;>(conv=>whnf))))
    all_goals first | exact ⟨hno (fun e=>by rw [e]) h4,F,F.le_refl,MemFits.pre 1 rfl⟩ | (exfalso;omega)
  rw [decide_eq_true h4] at cS
  by_cases h5:c.e=d.e
  rotate_left
  · rw [decide_eq_false h5] at cE
    (repeat' (first|(with_reducible first|(refine hK _ _ ?_;clear hK K)|(refine hA ?_;clear hA hB A B)|(refine hK _ ?_;clear hK K))|((with_reducible refine z25 ?_);intro K hK;(conv=>whnf))|(with_reducible refine z0 ?_)|((first|((with_reducible refine NIf.yes ?s ?_);case s=>(simp [h0];done))|((with_reducible refine NIf.no ?s ?_);case s=>(simp [h0];done))|with_reducible refine NIf.not_ ?_|((with_reducible refine NIf.decY ?s ?_);case s=>omega)|(with_reducible refine NN.a5 ?_)|((with_reducible refine NH.mk ?s ?_);case s=>(and_intros<;>first|((with_reducible refine gKept ?_);exact rfl)|omega|rfl))|((with_reducible refine NCall.isF 36 ?_);refine NCall.subE [0] (cS F F.le_refl) rfl (by decide) rfl rfl ?_)|((with_reducible refine NCall.isF 30 ?_);refine NCall.subw [0] _ _ (ce _ (by first | exact F.le_refl | assumption)) rfl (by decide) rfl ?_;rintro _ _ ⟨G1,v1,i1,i2,rfl,rfl⟩;refine ⟨Nat.le_of_ble_eq_true rfl,_,rfl,?_⟩)|((with_reducible refine NCall.isF 30 ?_);refine NCall.subw [0] _ _ (de _ (by first | exact F.le_refl | assumption)) rfl (by decide) rfl ?_;rintro _ _ ⟨G2,v2,i3,i4,rfl,rfl⟩;refine ⟨Nat.le_of_ble_eq_true rfl,_,rfl,?_⟩)|((with_reducible refine NCall.isF 36 ?_);refine NCall.subE [0] (cE _ _ _ (by first | assumption | exact mo (by assumption) (by assumption)) (by first | assumption | exact mo (by assumption) (by assumption))) rfl (by decide) rfl rfl ?_))<;>(conv=>whnf))|(with_reducible refine st_ordSout ?_)|((with_reducible refine gNOK ?_);(first|(refine st_ordK1 rfl (by kernel_rfl) rfl ?_;intro K hK;(conv=>whnf))|(refine st_ordK1g rfl (by kernel_rfl) rfl ?_;intro K hK;(conv=>whnf))|refine st_ordK0 rfl (by kernel_rfl) ?_|refine st_ordKA rfl rfl (by kernel_rfl) (by intro h;cases h) ?_))|((with_reducible refine gNEK ?_);(first|(refine st_eachKg rfl ?_ ?_;(intro K hK;(conv=>whnf)))|exact st_eachK0))|((with_reducible refine gX ?_);(first|refine st_orderS [0] rfl rfl (by kernel_rfl) _ rfl ?_|(with_reducible first|refine z3 ?_|refine z4 ?_|refine z8 ?_)|((with_reducible refine z29 ?_);intro A B hA hB;(conv=>whnf))))|(with_reducible first|refine z1 ?_|refine z2 ?_|refine z12 ?_)|((with_reducible refine gR ?_);(refine z31 rfl ?_;intro K hK;(conv=>whnf)))|((with_reducible refine gF ?_);(refine z33 rfl ?_;intro K hK;(conv=>whnf)))|((intro _;skip)<;>(conv=>whnf))))
    all_goals first | exact ⟨hno (fun e=>by rw [e]) h5,_,i1.trans i3,MemFits.pre 1 rfl⟩ | (exfalso;omega)
  rw [decide_eq_true h5] at cE
  (repeat' (first|(with_reducible first|(refine hK _ _ ?_;clear hK K)|(refine hB ?_;clear hA hB A B)|(refine hK _ ?_;clear hK K))|((with_reducible refine z25 ?_);intro K hK;(conv=>whnf))|(with_reducible refine z0 ?_)|((first|((with_reducible refine NIf.no ?s ?_);case s=>(simp [h0];done))|with_reducible refine NIf.not_ ?_|((with_reducible refine NIf.decY ?s ?_);case s=>omega)|(with_reducible refine NN.a5 ?_)|((with_reducible refine NH.mk ?s ?_);case s=>(and_intros<;>first|((with_reducible refine gKept ?_);exact rfl)|omega|rfl))|((with_reducible refine NCall.isF 36 ?_);refine NCall.subE [0] (cS F F.le_refl) rfl (by decide) rfl rfl ?_)|((with_reducible refine NCall.isF 30 ?_);refine NCall.subw [0] _ _ (ce _ (by first | exact F.le_refl | assumption)) rfl (by decide) rfl ?_;rintro _ _ ⟨G1,v1,i1,i2,rfl,rfl⟩;refine ⟨Nat.le_of_ble_eq_true rfl,_,rfl,?_⟩)|((with_reducible refine NCall.isF 30 ?_);refine NCall.subw [0] _ _ (de _ (by first | exact F.le_refl | assumption)) rfl (by decide) rfl ?_;rintro _ _ ⟨G2,v2,i3,i4,rfl,rfl⟩;refine ⟨Nat.le_of_ble_eq_true rfl,_,rfl,?_⟩)|((with_reducible refine NCall.isF 36 ?_);refine NCall.subE [0] (cE _ _ _ (by first | assumption | exact mo (by assumption) (by assumption)) (by first | assumption | exact mo (by assumption) (by assumption))) rfl (by decide) rfl rfl ?_))<;>(conv=>whnf))|(with_reducible refine st_ordSout ?_)|((with_reducible refine gNOK ?_);(first|(refine st_ordK1 rfl (by kernel_rfl) rfl ?_;intro K hK;(conv=>whnf))|(refine st_ordK1g rfl (by kernel_rfl) rfl ?_;intro K hK;(conv=>whnf))|refine st_ordK0 rfl (by kernel_rfl) ?_|refine st_ordKA rfl rfl (by kernel_rfl) (by intro h;cases h) ?_))|((with_reducible refine gNEK ?_);(first|(refine st_eachKg rfl ?_ ?_;(intro K hK;(conv=>whnf)))|exact st_eachK0))|((with_reducible refine gX ?_);(first|refine st_orderS [0] rfl rfl (by kernel_rfl) _ rfl ?_|(with_reducible first|refine z3 ?_|refine z4 ?_|refine z5 ?_|refine z6 ?_)|((with_reducible refine z29 ?_);intro A B hA hB;(conv=>whnf))))|(with_reducible first|refine z1 ?_|refine z2 ?_)|((with_reducible refine gF ?_);(refine z33 rfl ?_;intro K hK;(conv=>whnf)))|((intro _;skip)<;>(conv=>whnf))))
  all_goals try (exfalso;omega)
  have hle:=i1.trans i3
  have hcl:=(hc.mono hle).l
  have hdl:=(hd.mono hle).l
  have hch:=(hc.mono hle).h
  have hdh:=(hd.mono hle).h
  have hcw:=(hc.mono hle).w
  have hdw:=(hd.mono hle).w
  clear cS cE ce de mo hc hd i2 i4
  have scl:=sc.l
  have sch:=sc.h
  have scw:=sc.w
  refine st_auto (α:=Nat) (fun i=>i≤c.links.length∧c.links.take i=d.links.take i) (fun i=>[.keep,.keep,.keep,.keep,.set (.bool false),.set (.int .i64 i),.keep,.keep,.keep,.keep,.keep,.keep,.keep,.keep,.keep,.keep,.keep,.keep,.keep,.keep,.keep,.keep,.keep,.keep,.keep,.keep,.keep,.keep,.keep,.keep,.keep,.keep,.keep,.keep,.keep,.keep,.keep,.keep,.keep,.keep,.keep,.keep,.keep,.keep,.keep,.keep,.keep,.keep,.keep,.keep,.keep,.keep,.keep,.keep,.keep,.keep,.keep,.keep,.keep,.keep,.keep,.keep,.drop,.drop,.drop,.drop,.drop,.drop,.drop,.drop,.drop,.drop,.drop,.drop,.drop,.drop,.drop,.drop,.drop,.drop,.drop,.drop,.drop,.keep,.keep,.keep,.keep,.keep,.keep,.keep,.keep,.keep,.keep,.keep,.keep,.keep,.keep,.keep,.keep,.keep,.keep,.keep,.keep,.keep,.keep,.keep,.keep,.keep,.keep,.keep,.keep,.keep,.keep,.keep,.keep,.keep,.keep,.keep,.keep,.keep,.keep,.keep,.keep]) (fun _=>[]) (fun i=>c.links.length - i) 0 ⟨Nat.zero_le _,rfl⟩ ?_ (MemFits.eq rfl) ?_
  · repeat (first|exact FitsSl.nil|refine FitsSl.any ?_|refine FitsSl.cons (Fit1.int (by first | rfl | omega)) ?_|refine FitsSl.cons (Fit1.bool rfl) ?_|refine FitsSl.cons (Fit1.same (by intro h;cases h) (by with_reducible rfl)) ?_)
  (intro i ⟨hi,heq⟩;intro K hK;(conv=>whnf);refine hK _ _ ?_;clear hK K)
  by_cases hlt:i<c.links.length
  · have hltd:i<d.links.length:=by omega
    have hx:c.links[i]?=some c.links[i]:=List.getElem?_eq_getElem hlt
    have hy:d.links[i]?=some d.links[i]:=List.getElem?_eq_getElem hltd
    obtain ⟨c0,c1,c2,c3,c4,c5⟩:=RowF.get6 (f0:=fun x:Su.Lk=>Value.int .i64 x.a) (f1:=fun x=>.int .i64 x.pa) (f2:=fun x=>.int .i64 x.b) (f3:=fun x=>.int .i64 x.pb) (f4:=fun x=>.int .i64 x.lo) (f5:=fun x=>.int .i64 x.hi) hcl hlt
    obtain ⟨d0,d1,d2,d3,d4,d5⟩:=RowF.get6 (f0:=fun x:Su.Lk=>Value.int .i64 x.a) (f1:=fun x=>.int .i64 x.pa) (f2:=fun x=>.int .i64 x.b) (f3:=fun x=>.int .i64 x.pb) (f4:=fun x=>.int .i64 x.lo) (f5:=fun x=>.int .i64 x.hi) hdl hltd
    have hnx:c.links[i]=d.links[i]→c.links.take (i+1)=d.links.take (i+1):=fun e=>by rw [List.take_add_one,List.take_add_one,hx,hy,heq,e]
    have hne:c=d→c.links[i]=d.links[i]:=fun e=>by subst e;rfl
    generalize c.links[i]=x at *
    generalize d.links[i]=y at *
    by_cases hxy:x=y
    · subst hxy
      obtain ⟨x0,x1,x2,x3,x4,x5⟩:=x
      dsimp only at c0 c1 c2 c3 c4 c5 d0 d1 d2 d3 d4 d5
      (repeat' (first|(with_reducible first|(refine hK _ _ ?_;clear hK K)|(refine hA ?_;clear hA hB A B)|(refine hB ?_;clear hA hB A B)|(refine hK _ ?_;clear hK K))|((with_reducible refine z25 ?_);intro K hK;(conv=>whnf))|(with_reducible refine z0 ?_)|((first|((with_reducible refine NV.i64 ?s ?_);case s=>omega)|((with_reducible refine NIf.no ?s ?_);case s=>(simp ;done))|((with_reducible refine NIf.decY ?s ?_);case s=>omega)|(with_reducible first|refine NN.cast ?_|refine NN.a5 ?_|refine NN.keep ?_)|((with_reducible refine NH.mk ?s ?_);case s=>(and_intros<;>first|with_reducible rfl|omega|rfl))|(with_reducible refine NLd.of (by with_reducible assumption) ?_))<;>(conv=>whnf))|(with_reducible refine st_ordSout ?_)|((with_reducible refine gNOK ?_);(first|(refine st_ordK1 rfl (by kernel_rfl) rfl ?_;intro K hK;(conv=>whnf))|refine st_ordK0 rfl (by kernel_rfl) ?_))|((with_reducible refine gX ?_);(first|refine st_orderS [] rfl rfl (by kernel_rfl) _ rfl ?_|(with_reducible first|refine z3 ?_|refine z4 ?_|refine z5 ?_|refine z6 ?_)|((with_reducible refine z29 ?_);intro A B hA hB;(conv=>whnf))))|(with_reducible first|refine z1 ?_|refine z2 ?_|refine z9 ?_)|((refine NFlat_iff.2 ⟨⟨?s1,?s2⟩,?_⟩;(case s1=>decide +kernel);(case s2=>decide +kernel))<;>(conv=>whnf))))
      all_goals try (exfalso;omega)
      all_goals refine st_round (i+1) ⟨hlt,hnx rfl⟩ (by omega) ?_ (MemFits.eq rfl)
      all_goals repeat (first|exact FitsSl.nil|refine FitsSl.any ?_|refine FitsSl.cons (Fit1.int (by first | rfl | omega)) ?_|refine FitsSl.cons (Fit1.bool rfl) ?_|refine FitsSl.cons (Fit1.same (by intro h;cases h) (by with_reducible rfl)) ?_)
    · obtain ⟨x0,x1,x2,x3,x4,x5⟩:=x
      obtain ⟨y0,y1,y2,y3,y4,y5⟩:=y
      have hnb:(decide (x0=y0)&&(decide (x1=y1)&&(decide (x2=y2)&&(decide (x3=y3)&&(decide (x4=y4)&&(decide (x5=y5)&&true))))))=false:=by
        refine Bool.eq_false_iff.2 fun h=>hxy ?_
        simp only [Bool.and_eq_true,decide_eq_true_eq,and_true] at h
        obtain ⟨rfl,rfl,rfl,rfl,rfl,rfl⟩:=h
        rfl
      dsimp only at c0 c1 c2 c3 c4 c5 d0 d1 d2 d3 d4 d5
      (repeat' (first|(with_reducible first|(refine hK _ _ ?_;clear hK K)|(refine hA ?_;clear hA hB A B)|(refine hK _ ?_;clear hK K))|((with_reducible refine z25 ?_);intro K hK;(conv=>whnf))|(with_reducible refine z0 ?_)|((first|((with_reducible refine NIf.yes ?s ?_);case s=>(rw [hnb];rfl))|((with_reducible refine NIf.decY ?s ?_);case s=>omega)|(with_reducible first|refine NN.cast ?_|refine NN.a5 ?_|refine NN.keep ?_)|((with_reducible refine NH.mk ?s ?_);case s=>(and_intros<;>first|with_reducible rfl|omega|rfl))|(with_reducible refine NLd.of (by with_reducible assumption) ?_))<;>(conv=>whnf))|(with_reducible refine st_ordSout ?_)|((with_reducible refine gNOK ?_);(first|(refine st_ordK1 rfl (by kernel_rfl) rfl ?_;intro K hK;(conv=>whnf))|refine st_ordK0 rfl (by kernel_rfl) ?_))|((with_reducible refine gX ?_);(first|refine st_orderS [] rfl rfl (by kernel_rfl) _ rfl ?_|(with_reducible first|refine z3 ?_|refine z4 ?_|refine z5 ?_|refine z6 ?_|refine z8 ?_)|((with_reducible refine z29 ?_);intro A B hA hB;(conv=>whnf))))|(with_reducible first|refine z1 ?_|refine z2 ?_|refine z12 ?_|refine z13 ?_|refine z20 ?_)|((with_reducible refine gR ?_);(refine z31 rfl ?_;intro K hK;(conv=>whnf)))|((refine NFlat_iff.2 ⟨⟨?s1,?s2⟩,?_⟩;(case s1=>decide +kernel);(case s2=>decide +kernel))<;>(conv=>whnf))))
      all_goals first | exact ⟨hno hne hxy,_,hle,MemFits.pre 1 rfl⟩ | (exfalso;omega)
  · have hel:c.links=d.links:=by
      have e1:i=c.links.length:=by omega
      have e2:i=d.links.length:=by omega
      rw [← List.take_length (l:=c.links),← List.take_length (l:=d.links),← e1,← e2]
      exact heq
    clear heq
    (repeat' (first|(with_reducible first|(refine hK _ _ ?_;clear hK K)|(refine hB ?_;clear hA hB A B))|((with_reducible refine z25 ?_);intro K hK;(conv=>whnf))|(with_reducible refine z0 ?_)|((first|((with_reducible refine NIf.decN ?s ?_);case s=>omega)|(with_reducible refine NN.a5 ?_)|((with_reducible refine NH.mk ?s ?_);case s=>(and_intros<;>first|with_reducible rfl|omega)))<;>(conv=>whnf))|(with_reducible first|refine z3 ?_|refine z4 ?_|refine z5 ?_|refine z7 ?_)|((with_reducible refine z29 ?_);intro A B hA hB;(conv=>whnf))|(with_reducible first|refine z1 ?_|refine z2 ?_|refine z10 ?_|refine z11 ?_|refine z19 ?_)))
    all_goals try (exfalso;omega)
    refine st_auto (α:=Nat) (fun i=>i≤c.hosts.length∧c.hosts.take i=d.hosts.take i) (fun i=>[.keep,.keep,.keep,.keep,.set (.bool false),.keep,.set (.int .i64 i),.keep,.keep,.keep,.keep,.keep,.keep,.keep,.keep,.keep,.keep,.keep,.keep,.keep,.keep,.keep,.keep,.keep,.keep,.keep,.keep,.keep,.keep,.keep,.keep,.keep,.keep,.keep,.keep,.keep,.keep,.keep,.keep,.keep,.keep,.keep,.keep,.keep,.keep,.keep,.keep,.keep,.keep,.keep,.keep,.keep,.keep,.keep,.keep,.keep,.keep,.keep,.keep,.keep,.keep,.keep,.keep,.keep,.keep,.keep,.keep,.keep,.keep,.keep,.keep,.keep,.keep,.keep,.keep,.keep,.keep,.keep,.keep,.keep,.keep,.keep,.keep,.drop,.drop,.drop,.drop,.drop,.drop,.drop,.drop,.drop,.drop,.drop,.drop,.drop,.drop,.drop,.drop,.drop,.drop,.drop,.drop,.drop,.keep,.keep,.keep,.keep,.keep,.keep,.keep,.keep,.keep,.keep,.keep,.keep,.keep,.keep,.keep,.keep,.keep,.keep,.keep]) (fun _=>[]) (fun i=>c.hosts.length - i) 0 ⟨Nat.zero_le _,rfl⟩ ?_ (MemFits.eq rfl) ?_
    · repeat (first|exact FitsSl.nil|refine FitsSl.any ?_|refine FitsSl.cons (Fit1.int (by first | rfl | omega)) ?_|refine FitsSl.cons (Fit1.bool rfl) ?_|refine FitsSl.cons (Fit1.same (by intro h;cases h) (by with_reducible rfl)) ?_)
    clear hi hlt
    (intro i ⟨hi,heq⟩;intro K hK;(conv=>whnf);refine hK _ _ ?_;clear hK K)
    by_cases hlt:i<c.hosts.length
    · have hltd:i<d.hosts.length:=by omega
      have hx:c.hosts[i]?=some c.hosts[i]:=List.getElem?_eq_getElem hlt
      have hy:d.hosts[i]?=some d.hosts[i]:=List.getElem?_eq_getElem hltd
      obtain ⟨c0,c1⟩:=RowF.get2 (f0:=fun x:Su.Hs=>Value.int .i64 x.at_) (f1:=fun x=>.int .i64 x.port) hch hlt
      obtain ⟨d0,d1⟩:=RowF.get2 (f0:=fun x:Su.Hs=>Value.int .i64 x.at_) (f1:=fun x=>.int .i64 x.port) hdh hltd
      have hnx:c.hosts[i]=d.hosts[i]→c.hosts.take (i+1)=d.hosts.take (i+1):=fun e=>by rw [List.take_add_one,List.take_add_one,hx,hy,heq,e]
      have hne:c=d→c.hosts[i]=d.hosts[i]:=fun e=>by subst e;rfl
      generalize c.hosts[i]=x at *
      generalize d.hosts[i]=y at *
      by_cases hxy:x=y
      · subst hxy
        obtain ⟨x0,x1⟩:=x
        dsimp only at c0 c1 d0 d1
        (repeat' (first|(with_reducible first|(refine hK _ _ ?_;clear hK K)|(refine hA ?_;clear hA hB A B)|(refine hB ?_;clear hA hB A B)|(refine hK _ ?_;clear hK K))|((with_reducible refine z25 ?_);intro K hK;(conv=>whnf))|(with_reducible refine z0 ?_)|((first|((with_reducible refine NV.i64 ?s ?_);case s=>omega)|((with_reducible refine NIf.no ?s ?_);case s=>(simp ;done))|((with_reducible refine NIf.decY ?s ?_);case s=>omega)|(with_reducible first|refine NN.cast ?_|refine NN.a5 ?_|refine NN.keep ?_)|((with_reducible refine NH.mk ?s ?_);case s=>(and_intros<;>first|with_reducible rfl|omega|rfl))|(with_reducible refine NLd.of (by with_reducible assumption) ?_))<;>(conv=>whnf))|(with_reducible refine st_ordSout ?_)|((with_reducible refine gNOK ?_);(first|(refine st_ordK1 rfl (by kernel_rfl) rfl ?_;intro K hK;(conv=>whnf))|refine st_ordK0 rfl (by kernel_rfl) ?_))|((with_reducible refine gX ?_);(first|refine st_orderS [] rfl rfl (by kernel_rfl) _ rfl ?_|(with_reducible first|refine z3 ?_|refine z4 ?_|refine z5 ?_|refine z6 ?_)|((with_reducible refine z29 ?_);intro A B hA hB;(conv=>whnf))))|(with_reducible first|refine z1 ?_|refine z2 ?_|refine z9 ?_)|((refine NFlat_iff.2 ⟨⟨?s1,?s2⟩,?_⟩;(case s1=>decide +kernel);(case s2=>decide +kernel))<;>(conv=>whnf))))
        all_goals try (exfalso;omega)
        all_goals refine st_round (i+1) ⟨hlt,hnx rfl⟩ (by omega) ?_ (MemFits.eq rfl)
        all_goals repeat (first|exact FitsSl.nil|refine FitsSl.any ?_|refine FitsSl.cons (Fit1.int (by first | rfl | omega)) ?_|refine FitsSl.cons (Fit1.bool rfl) ?_|refine FitsSl.cons (Fit1.same (by intro h;cases h) (by with_reducible rfl)) ?_)
      · obtain ⟨x0,x1⟩:=x
        obtain ⟨y0,y1⟩:=y
        have hnb:(decide (x0=y0)&&(decide (x1=y1)&&true))=false:=by
          refine Bool.eq_false_iff.2 fun h=>hxy ?_
          simp only [Bool.and_eq_true,decide_eq_true_eq,and_true] at h
          obtain ⟨rfl,rfl⟩:=h
          rfl
        dsimp only at c0 c1 d0 d1
        (repeat' (first|(with_reducible first|(refine hK _ _ ?_;clear hK K)|(refine hA ?_;clear hA hB A B)|(refine hK _ ?_;clear hK K))|((with_reducible refine z25 ?_);intro K hK;(conv=>whnf))|(with_reducible refine z0 ?_)|((first|((with_reducible refine NIf.yes ?s ?_);case s=>(rw [hnb];rfl))|((with_reducible refine NIf.decY ?s ?_);case s=>omega)|(with_reducible first|refine NN.cast ?_|refine NN.a5 ?_|refine NN.keep ?_)|((with_reducible refine NH.mk ?s ?_);case s=>(and_intros<;>first|with_reducible rfl|omega|rfl))|(with_reducible refine NLd.of (by with_reducible assumption) ?_))<;>(conv=>whnf))|(with_reducible refine st_ordSout ?_)|((with_reducible refine gNOK ?_);(first|(refine st_ordK1 rfl (by kernel_rfl) rfl ?_;intro K hK;(conv=>whnf))|refine st_ordK0 rfl (by kernel_rfl) ?_))|((with_reducible refine gX ?_);(first|refine st_orderS [] rfl rfl (by kernel_rfl) _ rfl ?_|(with_reducible first|refine z3 ?_|refine z4 ?_|refine z5 ?_|refine z6 ?_|refine z8 ?_)|((with_reducible refine z29 ?_);intro A B hA hB;(conv=>whnf))))|(with_reducible first|refine z1 ?_|refine z2 ?_|refine z12 ?_|refine z13 ?_|refine z20 ?_)|((with_reducible refine gR ?_);(refine z31 rfl ?_;intro K hK;(conv=>whnf)))|((refine NFlat_iff.2 ⟨⟨?s1,?s2⟩,?_⟩;(case s1=>decide +kernel);(case s2=>decide +kernel))<;>(conv=>whnf))))
        all_goals first | exact ⟨hno hne hxy,_,hle,MemFits.pre 1 rfl⟩ | (exfalso;omega)
    · have heh:c.hosts=d.hosts:=by
        have e1:i=c.hosts.length:=by omega
        have e2:i=d.hosts.length:=by omega
        rw [← List.take_length (l:=c.hosts),← List.take_length (l:=d.hosts),← e1,← e2]
        exact heq
      clear heq
      (repeat' (first|(with_reducible first|(refine hK _ _ ?_;clear hK K)|(refine hB ?_;clear hA hB A B))|((with_reducible refine z25 ?_);intro K hK;(conv=>whnf))|(with_reducible refine z0 ?_)|((first|((with_reducible refine NIf.decN ?s ?_);case s=>omega)|(with_reducible refine NN.a5 ?_)|((with_reducible refine NH.mk ?s ?_);case s=>(and_intros<;>first|with_reducible rfl|omega)))<;>(conv=>whnf))|(with_reducible first|refine z3 ?_|refine z4 ?_|refine z5 ?_|refine z7 ?_)|((with_reducible refine z29 ?_);intro A B hA hB;(conv=>whnf))|(with_reducible first|refine z1 ?_|refine z2 ?_|refine z10 ?_|refine z11 ?_|refine z19 ?_)))
      all_goals try (exfalso;omega)
      refine st_auto (α:=Nat) (fun i=>i≤c.weights.length∧c.weights.take i=d.weights.take i) (fun i=>[.keep,.keep,.keep,.keep,.set (.bool false),.keep,.keep,.set (.int .i64 i),.keep,.keep,.keep,.keep,.keep,.keep,.keep,.keep,.keep,.keep,.keep,.keep,.keep,.keep,.keep,.keep,.keep,.keep,.keep,.keep,.keep,.keep,.keep,.keep,.keep,.keep,.keep,.keep,.keep,.keep,.keep,.keep,.keep,.keep,.keep,.keep,.keep,.keep,.keep,.keep,.keep,.keep,.keep,.keep,.keep,.keep,.keep,.keep,.keep,.keep,.keep,.keep,.keep,.keep,.keep,.keep,.keep,.keep,.keep,.keep,.keep,.keep,.keep,.keep,.keep,.keep,.keep,.keep,.keep,.keep,.keep,.keep,.keep,.keep,.keep,.keep,.keep,.keep,.keep,.keep,.keep,.keep,.keep,.keep,.keep,.keep,.keep,.keep,.keep,.keep,.keep,.keep,.keep,.keep,.keep,.keep,.drop,.drop,.drop,.drop,.drop,.drop,.drop,.drop,.drop,.drop,.drop,.drop,.drop,.drop,.drop,.drop,.drop,.drop,.drop]) (fun _=>[]) (fun i=>c.weights.length - i) 0 ⟨Nat.zero_le _,rfl⟩ ?_ (MemFits.eq rfl) ?_
      · repeat (first|exact FitsSl.nil|refine FitsSl.any ?_|refine FitsSl.cons (Fit1.int (by first | rfl | omega)) ?_|refine FitsSl.cons (Fit1.bool rfl) ?_|refine FitsSl.cons (Fit1.same (by intro h;cases h) (by with_reducible rfl)) ?_)
      clear hi hlt
      (intro i ⟨hi,heq⟩;intro K hK;(conv=>whnf);refine hK _ _ ?_;clear hK K)
      by_cases hlt:i<c.weights.length
      · have hltd:i<d.weights.length:=by omega
        have hx:c.weights[i]?=some c.weights[i]:=List.getElem?_eq_getElem hlt
        have hy:d.weights[i]?=some d.weights[i]:=List.getElem?_eq_getElem hltd
        obtain ⟨A,cA,g1,g2,c0⟩:=hcw.get hlt
        obtain ⟨B,cB,k1,k2,d0⟩:=hdw.get hltd
        have hnx:c.weights[i]=d.weights[i]→c.weights.take (i+1)=d.weights.take (i+1):=fun e=>by rw [List.take_add_one,List.take_add_one,hx,hy,heq,e]
        have hne:c=d→c.weights[i]=d.weights[i]:=fun e=>by subst e;rfl
        have ce:=refU_c G2 _ _ c.weights[i] d.weights[i] g1 k1 (by have:=sc.x _ (List.getElem_mem hlt);omega) (by have:=sd.x _ (List.getElem_mem hltd);omega)
        generalize c.weights[i]=x at *
        generalize d.weights[i]=y at *
        by_cases hxy:x=y
        · rw [decide_eq_true hxy] at ce
          (repeat' (first|(with_reducible first|(refine hK _ _ ?_;clear hK K)|(refine hA ?_;clear hA hB A B)|(refine hB ?_;clear hA hB A B)|(refine hK _ ?_;clear hK K))|((with_reducible refine z25 ?_);intro K hK;(conv=>whnf))|(with_reducible refine z0 ?_)|((first|((with_reducible refine NV.i64 ?s ?_);case s=>omega)|with_reducible refine NIf.not_ ?_|((with_reducible refine NIf.decY ?s ?_);case s=>omega)|((with_reducible refine NIf.yes ?s ?_);case s=>rfl)|(with_reducible first|refine NN.cast ?_|refine NN.a2 ?_|refine NN.a5 ?_)|((with_reducible refine NH.mk ?s ?_);case s=>(and_intros<;>first|with_reducible rfl|((with_reducible refine gKept ?_);exact rfl)|omega|rfl))|((with_reducible refine NCall.isF 37 ?_);refine NCall.subE [0] (ce) rfl (by decide) rfl rfl ?_)|(with_reducible refine NLd.of (by with_reducible assumption) ?_))<;>(conv=>whnf))|(with_reducible refine st_ordSout ?_)|((with_reducible refine gNOK ?_);(first|(refine st_ordK1 rfl (by kernel_rfl) rfl ?_;intro K hK;(conv=>whnf))|refine st_ordK0 rfl (by kernel_rfl) ?_|refine st_ordKA rfl rfl (by kernel_rfl) (by intro h;cases h) ?_))|((with_reducible refine gNEK ?_);(first|(refine st_eachK ?_ ?_;(intro K hK;(conv=>whnf)))|exact st_eachK0))|((with_reducible refine gX ?_);(first|refine st_orderS [] rfl rfl (by kernel_rfl) _ rfl ?_|(with_reducible first|refine z3 ?_|refine z4 ?_|refine z5 ?_|refine z6 ?_)|((with_reducible refine z29 ?_);intro A B hA hB;(conv=>whnf))))|(with_reducible first|refine z1 ?_|refine z2 ?_|refine z9 ?_)))
          all_goals try (exfalso;omega)
          all_goals refine st_round (i+1) ⟨hlt,hnx hxy⟩ (by omega) ?_ (MemFits.eq rfl)
          all_goals repeat (first|exact FitsSl.nil|refine FitsSl.any ?_|refine FitsSl.cons (Fit1.int (by first | rfl | omega)) ?_|refine FitsSl.cons (Fit1.bool rfl) ?_|refine FitsSl.cons (Fit1.same (by intro h;cases h) (by with_reducible rfl)) ?_)
        · rw [decide_eq_false hxy] at ce
          (repeat' (first|(with_reducible first|(refine hK _ _ ?_;clear hK K)|(refine hA ?_;clear hA hB A B)|(refine hK _ ?_;clear hK K))|((with_reducible refine z25 ?_);intro K hK;(conv=>whnf))|(with_reducible refine z0 ?_)|((first|with_reducible refine NIf.not_ ?_|((with_reducible refine NIf.decY ?s ?_);case s=>omega)|((with_reducible refine NIf.no ?s ?_);case s=>rfl)|(with_reducible first|refine NN.cast ?_|refine NN.a2 ?_|refine NN.a5 ?_)|((with_reducible refine NH.mk ?s ?_);case s=>(and_intros<;>first|with_reducible rfl|((with_reducible refine gKept ?_);exact rfl)|omega|rfl))|((with_reducible refine NCall.isF 37 ?_);refine NCall.subE [0] (ce) rfl (by decide) rfl rfl ?_)|(with_reducible refine NLd.of (by with_reducible assumption) ?_))<;>(conv=>whnf))|(with_reducible refine st_ordSout ?_)|((with_reducible refine gNOK ?_);(first|(refine st_ordK1 rfl (by kernel_rfl) rfl ?_;intro K hK;(conv=>whnf))|refine st_ordK0 rfl (by kernel_rfl) ?_|refine st_ordKA rfl rfl (by kernel_rfl) (by intro h;cases h) ?_))|((with_reducible refine gNEK ?_);(first|(refine st_eachK ?_ ?_;(intro K hK;(conv=>whnf)))|exact st_eachK0))|((with_reducible refine gX ?_);(first|refine st_orderS [] rfl rfl (by kernel_rfl) _ rfl ?_|(with_reducible first|refine z3 ?_|refine z4 ?_|refine z5 ?_|refine z6 ?_|refine z8 ?_)|((with_reducible refine z29 ?_);intro A B hA hB;(conv=>whnf))))|(with_reducible first|refine z1 ?_|refine z2 ?_|refine z12 ?_|refine z13 ?_|refine z20 ?_)|((with_reducible refine gR ?_);(refine z31 rfl ?_;intro K hK;(conv=>whnf)))))
          all_goals first | exact ⟨hno hne hxy,_,hle,MemFits.pre 1 rfl⟩ | (exfalso;omega)
      · have hew:c.weights=d.weights:=by
          have e1:i=c.weights.length:=by omega
          have e2:i=d.weights.length:=by omega
          rw [← List.take_length (l:=c.weights),← List.take_length (l:=d.weights),← e1,← e2]
          exact heq
        have hcd:c=d:=by
          obtain ⟨a1,a2,a3,a4,a5,a6,a7,a8,a9,a10,a11⟩:=c
          obtain ⟨q1,q2,q3,q4,q5,q6,q7,q8,q9,q10,q11⟩:=d
          simp only [Su.Cfg.e,List.cons.injEq,and_true] at h5
          obtain ⟨k1,k2,k3,k4,k5,k6⟩:=h5
          dsimp only at h0 h4 hel heh hew k1 k2 k3 k4 k5 k6
          subst h0 h4 hel heh hew k1 k2 k3 k4 k5 k6
          rfl
        clear hno heq hi hcl hdl hch hdh hcw hdw
        (repeat' (first|(with_reducible first|(refine hK _ _ ?_;clear hK K)|(refine hB ?_;clear hA hB A B)|(refine hK _ ?_;clear hK K))|((with_reducible refine z25 ?_);intro K hK;(conv=>whnf))|(with_reducible refine z0 ?_)|((first|((with_reducible refine NIf.decN ?s ?_);case s=>omega)|(with_reducible refine NN.a5 ?_)|((with_reducible refine NH.mk ?s ?_);case s=>(and_intros<;>first|with_reducible rfl|omega)))<;>(conv=>whnf))|(with_reducible first|refine z3 ?_|refine z4 ?_|refine z7 ?_|refine z8 ?_)|((with_reducible refine z29 ?_);intro A B hA hB;(conv=>whnf))|(with_reducible first|refine z1 ?_|refine z2 ?_|refine z10 ?_|refine z11 ?_|refine z19 ?_)|((with_reducible refine gR ?_);(refine z31 rfl ?_;intro K hK;(conv=>whnf)))))
        all_goals first | exact ⟨su_bT hcd,_,hle,MemFits.pre 1 rfl⟩ | (exfalso;omega)
end Go.Proofs.YtgphhbadnjfbjaaDoor
