import Derived.Test.YtijkmhmgigaieaaAu4
import Derived.Test.YtijkmhmgigaieaaTc5
import Derived.Test.YtijkmhmgigaieaaTc10
namespace Go.Proofs.Ytijkmhmgigaieaa
open Go.Sx
set_option maxRecDepth 20000
set_option linter.unusedSimpArgs false
set_option linter.unusedVariables false
set_option maxHeartbeats 4000000
set_option linter.unusedVariables false
namespace Au
abbrev Fd:=Int × Int
def fV (x:Fd):List Value:=[.int .i64 x.1,.int .i64 x.2]
def fC (l:List Fd):List AV:=l.flatMap fun x=>[.int .i64 x.1,.int .i64 x.2]
abbrev FRow (F:Heap) (v:Value) (l:List Fd):Prop:=RowF F 2 (fun x us=>us=fV x) v l
theorem fC_den (l:List Fd):denL (fC l)=l.flatMap fV:=by
  induction l with
  | nil=>rfl
  | cons x l ih=>unfold fC at *;rw [List.flatMap_cons,List.flatMap_cons,denL_append,ih];rfl
theorem fC_next (l:List Fd) (a b:Int):fC (l++[(a,b)])=fC l++[.int .i64 a,.int .i64 b]:=by unfold fC;rw [List.flatMap_append];simp
theorem ones_fC (l:List Fd):Go.Sx.ones (fC l)=true:=by
  induction l with
  | nil=>rfl
  | cons x l ih=>unfold fC at *;rw [List.flatMap_cons];simpa [Go.Sx.ones] using ih
def one (is:Bool) (k u:Int):List Fd:=if is=true then [(k,u)] else []
theorem one_len (is:Bool) (k u:Int):(one is k u).length≤1:=by unfold one;split<;>simp
def finds (t:Tp.T) (rs:List (List (List Int))) (l:List Tc.E) (c:Tc.C):List Fd :=
  one (Tc.twice c.sws) 1 c.id++one (decide (c.end_=4)) 2 c.id++one (decide (c.end_=3)&&!decide (c.host=c.to)) 3 c.id++one (!guarded l c.at_&&!walked t rs (inForce l c.at_) c) 4 c.id
theorem finds_len (t:Tp.T) (rs:List (List (List Int))) (l:List Tc.E) (c:Tc.C):(finds t rs l c).length≤4:=by
  unfold finds
  rw [List.length_append,List.length_append,List.length_append]
  have h1:=one_len (Tc.twice c.sws) 1 c.id
  have h2:=one_len (decide (c.end_=4)) 2 c.id
  have h3:=one_len (decide (c.end_=3)&&!decide (c.host=c.to)) 3 c.id
  have h4:=one_len (!guarded l c.at_&&!walked t rs (inForce l c.at_) c) 4 c.id
  omega
def check (t:Tp.T) (rs:List (List (List Int))) (l:List Tc.E):List Fd:=(Tc.tr l).flatMap (finds t rs l)
theorem flat_len {f:Tc.C→List Fd} (hf:∀ c,(f c).length≤4) (cs:List Tc.C):(cs.flatMap f).length≤4*cs.length:=by
  induction cs with
  | nil=>exact Nat.le_refl _
  | cons c cs ih =>
    have:=hf c
    rw [List.flatMap_cons,List.length_append,List.length_cons]
    omega
abbrev FLays (F:Heap) (l:List Fd) (r:AV) (m:List Blk):Prop:=∃ F' v,F.le F'∧FRow F' v l∧r = .hs v l.length∧m=[hpB F']
theorem finds_know {f:FuncId} {args:List AV} {F:Heap} {t:TypeId} {m:List Blk} {l:List Fd} (h:NCall Try.prog f args m fun r m'=>∃ G v,F.le G∧r.den=slOf v∧MemFits m' [hpB G,⟨addrOf v,fC l,.row v t 2 l.length⟩]) :
    NCall Try.prog f args m fun r m'=>FLays F l r m':=by
  refine Go.Sx.NCall.know h fun r m' ⟨G,u,hle,hr,hm⟩ ⟨w,hw⟩=>?_
  have hok:=((hm w hw).1.row (List.mem_cons_of_mem _ (List.mem_cons_self ..))).1
  have hrow:=rowF_new (F:=G) (sz:=2) (enc:=fV) hok (fC_den l) (fun x _=>rfl)
  exact ⟨.hs u l.length,_,hr.symm,hm.trans (MemFits.freeze (m:=[])),_,u,hle.trans addF.old,hrow,rfl,rfl⟩
def outB (b:Nat) (w:Value) (l:List Fd):List Blk:=[⟨⟨b,0,none⟩,[.sl 1 w l.length],.var 36⟩,⟨addrOf w,fC l,.row w 40 2 l.length⟩]
end Au
theorem findcl_c (b:Nat) (w:Value) (l:List Au.Fd) (is:Bool) (k u:Int) (hl:l.length≤10000) :
    NCall Try.prog 25 [.bool is,.int .i64 k,.int .i64 u,.ptr 0 ⟨b,0,none⟩ 0] (Au.outB b w l) fun r m=>∃ w',r = .tup []∧m=Au.outB b w' (l++Au.one is k u):=by
  refine NCall.fits (K:=fun r m=>∃ w',r = .tup []∧MemFits m (Au.outB b w' (l++Au.one is k u))) ?_ fun r m' ⟨w',h1,h2⟩=>⟨r,_,rfl,h2,w',h1,rfl⟩
  have hones:=Au.ones_fC l
  have hn:=Au.fC_next l k u
  unfold Au.one
  refine ncall_of Try.func25 rfl (by decide) ?_
  cases is with
  | false =>
    rw [if_neg (by simp),List.append_nil]
    unfold Au.outB
    (repeat' (first|(with_reducible first|(refine hK _ _ ?_;clear hK K)|(refine hB ?_;clear hA hB A B)|(refine hK _ ?_;clear hK K))|((with_reducible refine z25 ?_);intro K hK;(conv=>whnf))|(with_reducible refine z0 ?_)|(((with_reducible refine NIf.no ?s ?_);case s=>rfl)<;>(conv=>whnf))|(with_reducible first|refine z3 ?_|refine z4 ?_|refine z6 ?_)|((with_reducible refine z29 ?_);intro A B hA hB;(conv=>whnf))|(with_reducible first|refine z1 ?_|refine z2 ?_)|((with_reducible refine gR ?_);(refine z32 rfl ?_;intro K hK;(conv=>whnf)))|((with_reducible refine gF ?_);(refine z33 rfl ?_;intro K hK;(conv=>whnf)))))
    exact ⟨w,rfl,MemFits.eq rfl⟩
  | true =>
    rw [if_pos rfl]
    unfold Au.outB
    have hll:(l++[(k,u)]).length=l.length+1:=by simp
    rw [hn,hll]
    (repeat' (first|(with_reducible first|(refine hK _ _ ?_;clear hK K)|(refine hA ?_;clear hA hB A B)|(refine hK _ ?_;clear hK K))|((with_reducible refine z25 ?_);intro K hK;(conv=>whnf))|(with_reducible refine z0 ?_)|((first|((with_reducible refine NIf.yes ?s ?_);case s=>rfl)|((with_reducible refine NH.mk ?s ?_);case s=>(and_intros<;>first|with_reducible rfl|((with_reducible refine gOnes ?_);rfl)|((with_reducible refine gLen ?_);rfl)|omega)))<;>(conv=>whnf))|(with_reducible first|refine z3 ?_|refine z4 ?_)|((with_reducible refine z29 ?_);intro A B hA hB;(conv=>whnf))|(with_reducible first|refine z1 ?_|refine z2 ?_)|((with_reducible refine gR ?_);(refine z32 rfl ?_;intro K hK;(conv=>whnf)))|((with_reducible refine gF ?_);(refine z33 rfl ?_;intro K hK;(conv=>whnf)))|((intro _;skip)<;>(conv=>whnf))))
    all_goals
      rename_i w2
      exact ⟨w2,rfl,MemFits.pre 2 rfl⟩
theorem out_new {x y:Blk} {b:Nat} {t:TypeId}:MemFits [x,y,⟨⟨b,0,none⟩,[.raw (.slice none 0 0)],.var t⟩] [x,y,⟨⟨b,0,none⟩,[.sl 1 (.slice none 0 0) 0],.var t⟩,⟨⟨0,0,none⟩,[],.row (.slice none 0 0) 40 2 0⟩] :=
  (MemFits.congr (m:=[x,y,⟨⟨b,0,none⟩,[.raw (.slice none 0 0)],.var t⟩]) (m':=[x,y,⟨⟨b,0,none⟩,[.sl 1 (.slice none 0 0) 0],.var t⟩]) rfl).trans (MemFits.nilRow [x,y,⟨⟨b,0,none⟩,[.sl 1 (.slice none 0 0) 0],.var t⟩] 40 2)
theorem check42_c (F:Heap) (t:Tp.T) (lv hv v ev:Value) (rs:List (List (List Int))) (l:List Tc.E) (ht:Tp.At F t lv hv) (hl:t.ls.length≤1000) (hh:t.hs.length≤1000) (hr:Au.RRow F v rs) (hf:Au.fewR rs) (he:Tc.ERow F ev l) (hel:l.length≤1000) :
    NCall Try.prog 11 [.agg (Tp.cs t lv hv),.hs v rs.length,.hs ev l.length] [hpB F] fun r m=>Au.FLays F (Au.check t rs l) r m:=by
  refine Au.finds_know (t:=40) ?_
  have hlo:=ht.l.ok
  have hho:=ht.h.ok
  have hok:=hr.ok
  have hek:=he.ok
  have hsh:=Tc.tr_short l
  have co:=of41_c F ev l he hel
  have cG:=fun G (h:F.le G) a=>guarded42_c G ev l (Tc.erow_mono h he) hel a
  have cI:=fun G (h:F.le G) a=>inforce42_c G ev l (Tc.erow_mono h he) hel a
  have cW:=fun G (h:F.le G) k c w hw hc=>walked42_c G t lv hv v rs (ht.mono h) hl hh (Au.RRow.mono h hr) hf k c w hw hc
  have cT:=fun G c w hw hc=>twice41_c G c w hw hc
  have hfl:=Au.finds_len t rs l
  have hfd:∀ c,Au.finds t rs l c=Au.one (Tc.twice c.sws) 1 c.id++Au.one (decide (c.end_=4)) 2 c.id++Au.one (decide (c.end_=3)&&!decide (c.host=c.to)) 3 c.id++Au.one (!Au.guarded l c.at_&&!Au.walked t rs (Au.inForce l c.at_) c) 4 c.id:=fun c=>rfl
  unfold Au.check
  generalize Au.finds t rs l=fd at *
  generalize Tc.tr l=cs at *
  unfold Tp.cs at cW ⊢
  refine ncall_of Try.func11 rfl (by decide) ?_
  (repeat' (first|(with_reducible first|(refine hK _ _ ?_;clear hK K)|(refine hK _ ?_;clear hK K))|((with_reducible refine z25 ?_);intro K hK;(conv=>whnf))|(with_reducible refine z0 ?_)|(((with_reducible refine NCall.isF 26 ?_);refine NCall.subw [0] _ _ (co) rfl (by decide) rfl ?_;rintro _ _ ⟨G,u,hle,hu,rfl,rfl⟩;refine ⟨Nat.le_of_ble_eq_true rfl,_,rfl,?_⟩)<;>(conv=>whnf))|(with_reducible first|refine z3 ?_|refine z4 ?_|refine z1 ?_|refine z2 ?_)|((with_reducible refine gF ?_);(refine z33 rfl ?_;intro K hK;(conv=>whnf)))|((intro _;skip)<;>(conv=>whnf))))
  rename_i b1 b2
  have huk:=hu.ok
  have hok2:=(Au.RRow.mono hle hr).ok
  (repeat' (first|(with_reducible (refine hK _ _ ?_;clear hK K))|((with_reducible refine z25 ?_);intro K hK;(conv=>whnf))|(with_reducible refine z0 ?_)|(((with_reducible refine NH.mk ?s ?_);case s=>(and_intros<;>omega))<;>(conv=>whnf))|(with_reducible first|refine z5 ?_|refine z1 ?_|refine z2 ?_)))
  refine st_auto (α:=Value × Nat) (fun (w,i)=>i≤cs.length) (fun (w,i)=>[.keep,.keep,.keep,.keep,.keep,.keep,.keep,.keep,.keep,.keep,.drop,.keep,.keep,.keep,.keep,.set (.int .i64 i),.drop,.drop,.drop,.drop,.drop,.drop,.drop,.drop,.drop,.drop,.drop,.drop,.drop,.drop,.drop,.drop,.drop,.drop,.drop,.drop,.drop,.drop,.drop,.drop,.drop,.drop,.drop,.drop,.drop,.drop,.drop,.drop,.drop,.drop,.drop,.drop,.drop,.drop,.drop,.drop,.drop,.drop,.drop,.drop,.drop,.drop,.drop,.drop,.drop,.drop,.drop,.keep]) (fun (w,i)=>[.keep,.keep,.set ⟨⟨b2,0,none⟩,[.sl 1 w ((cs.take i).flatMap fd).length],.var 36⟩,.set ⟨addrOf w,Au.fC ((cs.take i).flatMap fd),.row w 40 2 ((cs.take i).flatMap fd).length⟩]) (fun (w,i)=>cs.length - i) (.slice none 0 0,0) (Nat.zero_le _) ?_ out_new ?_
  · repeat (first|exact FitsSl.nil|refine FitsSl.any ?_|refine FitsSl.cons (Fit1.int (by first | rfl | omega)) ?_|refine FitsSl.cons (Fit1.same (by intro h;cases h) (by with_reducible rfl)) ?_)
  (intro ⟨w,i⟩ hi;intro K hK;(conv=>whnf);refine hK _ _ ?_;clear hK K)
  dsimp only at hi ⊢
  have hfl2:=Au.flat_len hfl (cs.take i)
  rw [List.length_take,Nat.min_eq_left hi] at hfl2
  have hcl:=hsh.1
  by_cases hlt:i<cs.length
  · have hx:cs[i]?=some cs[i]:=List.getElem?_eq_getElem hlt
    obtain ⟨A,cap,hrw,c0,c1,c2,c3,c4,c5,c6,c7⟩:=hu.get hx
    have hxl:cs[i].sws.length≤1000:=by
      have:=hsh.2 _ (List.getElem_mem hlt)
      omega
    have hnx:(cs.take (i+1)).flatMap fd=(cs.take i).flatMap fd++fd cs[i]:=by rw [List.take_add_one,hx,Option.toList_some,List.flatMap_append];simp
    rw [hfd] at hnx
    generalize (cs.take i).flatMap fd=fs at *
    generalize hf2:(cs.take (i+1)).flatMap fd=fs2 at *
    generalize cs[i]=x at *
    have ct:=cT G x _ hrw hxl
    have cg:=cG G hle x.at_
    have ci:=cI G hle x.at_
    have cw:=cW G hle (Au.inForce l x.at_) x _ hrw hxl
    have hrk:=hrw.ok
    simp only [Tc.cs] at ct cw
    have o1:=Au.one_len (Tc.twice x.sws) 1 x.id
    have o2:=Au.one_len (decide (x.end_=4)) 2 x.id
    have o3:=Au.one_len (decide (x.end_=3)&&!decide (x.host=x.to)) 3 x.id
    have f1:=findcl_c b2 w fs (Tc.twice x.sws) 1 x.id (by omega)
    have f2:=fun w=>findcl_c b2 w (fs++Au.one (Tc.twice x.sws) 1 x.id) (decide (x.end_=4)) 2 x.id (by rw [List.length_append];omega)
    have f3:=fun w=>findcl_c b2 w (fs++Au.one (Tc.twice x.sws) 1 x.id++Au.one (decide (x.end_=4)) 2 x.id) (decide (x.end_=3)&&!decide (x.host=x.to)) 3 x.id (by rw [List.length_append,List.length_append];omega)
    have f4:=fun w=>findcl_c b2 w (fs++Au.one (Tc.twice x.sws) 1 x.id++Au.one (decide (x.end_=4)) 2 x.id++Au.one (decide (x.end_=3)&&!decide (x.host=x.to)) 3 x.id) (!Au.guarded l x.at_&&!Au.walked t rs (Au.inForce l x.at_) x) 4 x.id (by rw [List.length_append,List.length_append,List.length_append];omega)
    simp only [← List.append_assoc] at hnx
    rw [← hnx] at f4
    generalize Au.guarded l x.at_=gd at *
    generalize Au.inForce l x.at_=fo at *
    generalize Au.walked t rs fo x=wd at *
    unfold Au.outB at f1 f2 f3 f4
    by_cases h3:x.end_=3
    · rw [decide_eq_true h3,Bool.true_and] at f3 f4
      cases gd with
      | true =>
        simp only [Bool.not_true,Bool.not_false,Bool.true_and,Bool.false_and] at f4
        (repeat' (first|(with_reducible first|(refine hK _ _ ?_;clear hK K)|(refine hA ?_;clear hA hB A B)|(refine hK _ ?_;clear hK K))|((with_reducible first|refine z25 ?_|refine z26 ?_);intro K hK;(conv=>whnf))|(with_reducible refine z0 ?_)|((first|((with_reducible refine NV.i64 ?s ?_);case s=>omega)|((with_reducible refine NIf.yes ?s ?_);case s=>(simp [h3];done))|((with_reducible refine NIf.no ?s ?_);case s=>(simp [h3];done))|((with_reducible refine NIf.decY ?s ?_);case s=>omega)|(with_reducible first|refine NN.cast ?_|refine NN.a5 ?_|refine NN.keep ?_)|((with_reducible refine NH.mk ?s ?_);case s=>(and_intros<;>first|with_reducible rfl|((with_reducible refine gOnes ?_);rfl)|((with_reducible refine gLen ?_);rfl)|((with_reducible refine gKept ?_);exact rfl)|omega|rfl))|((with_reducible refine NCall.isF 27 ?_);refine NCall.subE [0] (ct) rfl (by decide) rfl rfl ?_)|((with_reducible refine NCall.isF 13 ?_);refine NCall.subE [0] (cg) rfl (by decide) rfl rfl ?_)|((with_reducible refine NCall.isF 25 ?_);refine NCall.subw [2,3] _ _ (f1) rfl (by decide) rfl ?_;rintro _ _ ⟨w1,rfl,rfl⟩;refine ⟨Nat.le_of_ble_eq_true rfl,_,rfl,?_⟩)|((with_reducible refine NCall.isF 25 ?_);refine NCall.subw [2,3] _ _ (f2 _) rfl (by decide) rfl ?_;rintro _ _ ⟨w2,rfl,rfl⟩;refine ⟨Nat.le_of_ble_eq_true rfl,_,rfl,?_⟩)|((with_reducible refine NCall.isF 25 ?_);refine NCall.subw [2,3] _ _ (f3 _) rfl (by decide) rfl ?_;rintro _ _ ⟨w3,rfl,rfl⟩;refine ⟨Nat.le_of_ble_eq_true rfl,_,rfl,?_⟩)|((with_reducible refine NCall.isF 25 ?_);refine NCall.subw [2,3] _ _ (f4 _) rfl (by decide) rfl ?_;rintro _ _ ⟨w4,rfl,rfl⟩;refine ⟨Nat.le_of_ble_eq_true rfl,_,rfl,?_⟩)|(with_reducible refine NLd.of (by with_reducible assumption) ?_))<;>(conv=>whnf))|(with_reducible refine st_ordSout ?_)|((with_reducible refine gNOK ?_);(first|(refine st_ordK1 rfl (by kernel_rfl) rfl ?_;intro K hK;(conv=>whnf))|(refine st_ordK1g rfl (by kernel_rfl) rfl ?_;intro K hK;(conv=>whnf))|refine st_ordK0 rfl (by kernel_rfl) ?_|refine st_ordKA rfl rfl (by kernel_rfl) (by intro h;cases h) ?_))|((with_reducible refine gNEK ?_);(first|(refine st_eachK ?_ ?_;(intro K hK;(conv=>whnf)))|(refine st_eachKg rfl ?_ ?_;(intro K hK;(conv=>whnf)))|exact st_eachK0))|((with_reducible refine gX ?_);(first|refine st_orderS [2,3] rfl rfl (by kernel_rfl) _ rfl ?_|(with_reducible first|refine z3 ?_|refine z4 ?_|refine z5 ?_|refine z6 ?_)|((with_reducible refine z29 ?_);intro A B hA hB;(conv=>whnf))))|(with_reducible first|refine z1 ?_|refine z2 ?_|refine z9 ?_)|((intro _;skip)<;>(conv=>whnf))))
        all_goals
          refine st_round (w4,i+1) hlt (by show cs.length - (i+1)<cs.length - i;omega) ?_ ?_
          · repeat (first|exact FitsSl.nil|refine FitsSl.any ?_|refine FitsSl.cons (Fit1.int (by first | rfl | omega)) ?_|refine FitsSl.cons (Fit1.same (by intro h;cases h) (by with_reducible rfl)) ?_)
          · dsimp only;rw [hf2];exact MemFits.pre 4 rfl
      | false =>
        simp only [Bool.not_true,Bool.not_false,Bool.true_and,Bool.false_and] at f4
        (repeat' (first|(with_reducible first|(refine hK _ _ ?_;clear hK K)|(refine hA ?_;clear hA hB A B)|(refine hK _ ?_;clear hK K))|((with_reducible first|refine z25 ?_|refine z26 ?_);intro K hK;(conv=>whnf))|(with_reducible refine z0 ?_)|((first|((with_reducible refine NV.i64 ?s ?_);case s=>omega)|((with_reducible refine NIf.yes ?s ?_);case s=>(simp [h3];done))|((with_reducible refine NIf.decY ?s ?_);case s=>omega)|(with_reducible first|refine NN.cast ?_|refine NN.a5 ?_|refine NN.keep ?_)|((with_reducible refine NH.mk ?s ?_);case s=>(and_intros<;>first|with_reducible rfl|((with_reducible refine gOnes ?_);rfl)|((with_reducible refine gLen ?_);rfl)|((with_reducible refine gKept ?_);exact rfl)|omega|rfl))|((with_reducible refine NCall.isF 27 ?_);refine NCall.subE [0] (ct) rfl (by decide) rfl rfl ?_)|((with_reducible refine NCall.isF 13 ?_);refine NCall.subE [0] (cg) rfl (by decide) rfl rfl ?_)|((with_reducible refine NCall.isF 14 ?_);refine NCall.subE [0] (ci) rfl (by decide) rfl rfl ?_)|((with_reducible refine NCall.isF 28 ?_);refine NCall.subE [0] (cw) rfl (by decide) rfl rfl ?_)|((with_reducible refine NCall.isF 25 ?_);refine NCall.subw [2,3] _ _ (f1) rfl (by decide) rfl ?_;rintro _ _ ⟨w1,rfl,rfl⟩;refine ⟨Nat.le_of_ble_eq_true rfl,_,rfl,?_⟩)|((with_reducible refine NCall.isF 25 ?_);refine NCall.subw [2,3] _ _ (f2 _) rfl (by decide) rfl ?_;rintro _ _ ⟨w2,rfl,rfl⟩;refine ⟨Nat.le_of_ble_eq_true rfl,_,rfl,?_⟩)|((with_reducible refine NCall.isF 25 ?_);refine NCall.subw [2,3] _ _ (f3 _) rfl (by decide) rfl ?_;rintro _ _ ⟨w3,rfl,rfl⟩;refine ⟨Nat.le_of_ble_eq_true rfl,_,rfl,?_⟩)|((with_reducible refine NCall.isF 25 ?_);refine NCall.subw [2,3] _ _ (f4 _) rfl (by decide) rfl ?_;rintro _ _ ⟨w4,rfl,rfl⟩;refine ⟨Nat.le_of_ble_eq_true rfl,_,rfl,?_⟩)|(with_reducible refine NLd.of (by with_reducible assumption) ?_))<;>(conv=>whnf))|(with_reducible refine st_ordSout ?_)|((with_reducible refine gNOK ?_);(first|(refine st_ordK1 rfl (by kernel_rfl) rfl ?_;intro K hK;(conv=>whnf))|(refine st_ordK1g rfl (by kernel_rfl) rfl ?_;intro K hK;(conv=>whnf))|refine st_ordK0 rfl (by kernel_rfl) ?_|refine st_ordKA rfl rfl (by kernel_rfl) (by intro h;cases h) ?_))|((with_reducible refine gNEK ?_);(first|(refine st_eachK ?_ ?_;(intro K hK;(conv=>whnf)))|(refine st_eachKg rfl ?_ ?_;(intro K hK;(conv=>whnf)))|exact st_eachK0))|((with_reducible refine gX ?_);(first|refine st_orderS [2,3] rfl rfl (by kernel_rfl) _ rfl ?_|(with_reducible first|refine z3 ?_|refine z4 ?_|refine z5 ?_|refine z6 ?_)|((with_reducible refine z29 ?_);intro A B hA hB;(conv=>whnf))))|(with_reducible first|refine z1 ?_|refine z2 ?_|refine z9 ?_)|((intro _;skip)<;>(conv=>whnf))))
        all_goals
          refine st_round (w4,i+1) hlt (by show cs.length - (i+1)<cs.length - i;omega) ?_ ?_
          · repeat (first|exact FitsSl.nil|refine FitsSl.any ?_|refine FitsSl.cons (Fit1.int (by first | rfl | omega)) ?_|refine FitsSl.cons (Fit1.same (by intro h;cases h) (by with_reducible rfl)) ?_)
          · dsimp only;rw [hf2];exact MemFits.pre 4 rfl
    · rw [decide_eq_false h3,Bool.false_and] at f3 f4
      cases gd with
      | true =>
        simp only [Bool.not_true,Bool.not_false,Bool.true_and,Bool.false_and] at f4
        (repeat' (first|(with_reducible first|(refine hK _ _ ?_;clear hK K)|(refine hA ?_;clear hA hB A B)|(refine hK _ ?_;clear hK K))|((with_reducible first|refine z25 ?_|refine z26 ?_);intro K hK;(conv=>whnf))|(with_reducible refine z0 ?_)|((first|((with_reducible refine NV.i64 ?s ?_);case s=>omega)|((with_reducible refine NIf.no ?s ?_);case s=>(simp [h3];done))|((with_reducible refine NIf.decY ?s ?_);case s=>omega)|(with_reducible first|refine NN.cast ?_|refine NN.a5 ?_|refine NN.keep ?_)|((with_reducible refine NH.mk ?s ?_);case s=>(and_intros<;>first|with_reducible rfl|((with_reducible refine gOnes ?_);rfl)|((with_reducible refine gLen ?_);rfl)|((with_reducible refine gKept ?_);exact rfl)|omega|rfl))|((with_reducible refine NCall.isF 27 ?_);refine NCall.subE [0] (ct) rfl (by decide) rfl rfl ?_)|((with_reducible refine NCall.isF 13 ?_);refine NCall.subE [0] (cg) rfl (by decide) rfl rfl ?_)|((with_reducible refine NCall.isF 25 ?_);refine NCall.subw [2,3] _ _ (f1) rfl (by decide) rfl ?_;rintro _ _ ⟨w1,rfl,rfl⟩;refine ⟨Nat.le_of_ble_eq_true rfl,_,rfl,?_⟩)|((with_reducible refine NCall.isF 25 ?_);refine NCall.subw [2,3] _ _ (f2 _) rfl (by decide) rfl ?_;rintro _ _ ⟨w2,rfl,rfl⟩;refine ⟨Nat.le_of_ble_eq_true rfl,_,rfl,?_⟩)|((with_reducible refine NCall.isF 25 ?_);refine NCall.subw [2,3] _ _ (f3 _) rfl (by decide) rfl ?_;rintro _ _ ⟨w3,rfl,rfl⟩;refine ⟨Nat.le_of_ble_eq_true rfl,_,rfl,?_⟩)|((with_reducible refine NCall.isF 25 ?_);refine NCall.subw [2,3] _ _ (f4 _) rfl (by decide) rfl ?_;rintro _ _ ⟨w4,rfl,rfl⟩;refine ⟨Nat.le_of_ble_eq_true rfl,_,rfl,?_⟩)|(with_reducible refine NLd.of (by with_reducible assumption) ?_))<;>(conv=>whnf))|(with_reducible refine st_ordSout ?_)|((with_reducible refine gNOK ?_);(first|(refine st_ordK1 rfl (by kernel_rfl) rfl ?_;intro K hK;(conv=>whnf))|(refine st_ordK1g rfl (by kernel_rfl) rfl ?_;intro K hK;(conv=>whnf))|refine st_ordK0 rfl (by kernel_rfl) ?_|refine st_ordKA rfl rfl (by kernel_rfl) (by intro h;cases h) ?_))|((with_reducible refine gNEK ?_);(first|(refine st_eachK ?_ ?_;(intro K hK;(conv=>whnf)))|(refine st_eachKg rfl ?_ ?_;(intro K hK;(conv=>whnf)))|exact st_eachK0))|((with_reducible refine gX ?_);(first|refine st_orderS [2,3] rfl rfl (by kernel_rfl) _ rfl ?_|(with_reducible first|refine z3 ?_|refine z4 ?_|refine z5 ?_|refine z6 ?_)|((with_reducible refine z29 ?_);intro A B hA hB;(conv=>whnf))))|(with_reducible first|refine z1 ?_|refine z2 ?_|refine z9 ?_)|((intro _;skip)<;>(conv=>whnf))))
        all_goals
          refine st_round (w4,i+1) hlt (by show cs.length - (i+1)<cs.length - i;omega) ?_ ?_
          · repeat (first|exact FitsSl.nil|refine FitsSl.any ?_|refine FitsSl.cons (Fit1.int (by first | rfl | omega)) ?_|refine FitsSl.cons (Fit1.same (by intro h;cases h) (by with_reducible rfl)) ?_)
          · dsimp only;rw [hf2];exact MemFits.pre 4 rfl
      | false =>
        simp only [Bool.not_true,Bool.not_false,Bool.true_and,Bool.false_and] at f4
        (repeat' (first|(with_reducible first|(refine hK _ _ ?_;clear hK K)|(refine hA ?_;clear hA hB A B)|(refine hK _ ?_;clear hK K))|((with_reducible first|refine z25 ?_|refine z26 ?_);intro K hK;(conv=>whnf))|(with_reducible refine z0 ?_)|((first|((with_reducible refine NV.i64 ?s ?_);case s=>omega)|((with_reducible refine NIf.yes ?s ?_);case s=>(simp [h3];done))|((with_reducible refine NIf.no ?s ?_);case s=>(simp [h3];done))|((with_reducible refine NIf.decY ?s ?_);case s=>omega)|(with_reducible first|refine NN.cast ?_|refine NN.a5 ?_|refine NN.keep ?_)|((with_reducible refine NH.mk ?s ?_);case s=>(and_intros<;>first|with_reducible rfl|((with_reducible refine gOnes ?_);rfl)|((with_reducible refine gLen ?_);rfl)|((with_reducible refine gKept ?_);exact rfl)|omega|rfl))|((with_reducible refine NCall.isF 27 ?_);refine NCall.subE [0] (ct) rfl (by decide) rfl rfl ?_)|((with_reducible refine NCall.isF 13 ?_);refine NCall.subE [0] (cg) rfl (by decide) rfl rfl ?_)|((with_reducible refine NCall.isF 14 ?_);refine NCall.subE [0] (ci) rfl (by decide) rfl rfl ?_)|((with_reducible refine NCall.isF 28 ?_);refine NCall.subE [0] (cw) rfl (by decide) rfl rfl ?_)|((with_reducible refine NCall.isF 25 ?_);refine NCall.subw [2,3] _ _ (f1) rfl (by decide) rfl ?_;rintro _ _ ⟨w1,rfl,rfl⟩;refine ⟨Nat.le_of_ble_eq_true rfl,_,rfl,?_⟩)|((with_reducible refine NCall.isF 25 ?_);refine NCall.subw [2,3] _ _ (f2 _) rfl (by decide) rfl ?_;rintro _ _ ⟨w2,rfl,rfl⟩;refine ⟨Nat.le_of_ble_eq_true rfl,_,rfl,?_⟩)|((with_reducible refine NCall.isF 25 ?_);refine NCall.subw [2,3] _ _ (f3 _) rfl (by decide) rfl ?_;rintro _ _ ⟨w3,rfl,rfl⟩;refine ⟨Nat.le_of_ble_eq_true rfl,_,rfl,?_⟩)|((with_reducible refine NCall.isF 25 ?_);refine NCall.subw [2,3] _ _ (f4 _) rfl (by decide) rfl ?_;rintro _ _ ⟨w4,rfl,rfl⟩;refine ⟨Nat.le_of_ble_eq_true rfl,_,rfl,?_⟩)|(with_reducible refine NLd.of (by with_reducible assumption) ?_))<;>(conv=>whnf))|(with_reducible refine st_ordSout ?_)|((with_reducible refine gNOK ?_);(first|(refine st_ordK1 rfl (by kernel_rfl) rfl ?_;intro K hK;(conv=>whnf))|(refine st_ordK1g rfl (by kernel_rfl) rfl ?_;intro K hK;(conv=>whnf))|refine st_ordK0 rfl (by kernel_rfl) ?_|refine st_ordKA rfl rfl (by kernel_rfl) (by intro h;cases h) ?_))|((with_reducible refine gNEK ?_);(first|(refine st_eachK ?_ ?_;(intro K hK;(conv=>whnf)))|(refine st_eachKg rfl ?_ ?_;(intro K hK;(conv=>whnf)))|exact st_eachK0))|((with_reducible refine gX ?_);(first|refine st_orderS [2,3] rfl rfl (by kernel_rfl) _ rfl ?_|(with_reducible first|refine z3 ?_|refine z4 ?_|refine z5 ?_|refine z6 ?_)|((with_reducible refine z29 ?_);intro A B hA hB;(conv=>whnf))))|(with_reducible first|refine z1 ?_|refine z2 ?_|refine z9 ?_)|((intro _;skip)<;>(conv=>whnf))))
        all_goals
          refine st_round (w4,i+1) hlt (by show cs.length - (i+1)<cs.length - i;omega) ?_ ?_
          · repeat (first|exact FitsSl.nil|refine FitsSl.any ?_|refine FitsSl.cons (Fit1.int (by first | rfl | omega)) ?_|refine FitsSl.cons (Fit1.same (by intro h;cases h) (by with_reducible rfl)) ?_)
          · dsimp only;rw [hf2];exact MemFits.pre 4 rfl
  · have hii:i=cs.length:=by omega
    subst hii
    rw [List.take_length]
    (repeat' (first|(with_reducible first|(refine hK _ _ ?_;clear hK K)|(refine hB ?_;clear hA hB A B)|(refine hK _ ?_;clear hK K))|((with_reducible refine z25 ?_);intro K hK;(conv=>whnf))|(with_reducible refine z0 ?_)|((first|((with_reducible refine NIf.decN ?s ?_);case s=>omega)|((with_reducible refine NH.mk ?s ?_);case s=>(and_intros<;>with_reducible rfl)))<;>(conv=>whnf))|(with_reducible first|refine z3 ?_|refine z4 ?_|refine z7 ?_|refine z8 ?_)|((with_reducible refine z29 ?_);intro A B hA hB;(conv=>whnf))|(with_reducible first|refine z1 ?_|refine z2 ?_|refine z10 ?_|refine z11 ?_|refine z19 ?_)|((with_reducible refine gR ?_);(refine z31 rfl ?_;intro K hK;(conv=>whnf)))))
    exact ⟨G,w,hle,rfl,MemFits.pick [0,3] (by decide) rfl⟩
end Go.Proofs.Ytijkmhmgigaieaa
