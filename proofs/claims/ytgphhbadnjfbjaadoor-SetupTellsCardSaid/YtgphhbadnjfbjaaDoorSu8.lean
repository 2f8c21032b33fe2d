import Derived.Test.YtgphhbadnjfbjaaDoorSu5
import Derived.Test.YtgphhbadnjfbjaaDoorSu7
import Derived.Test.YtgphhbadnjfbjaaDoorSxJ
namespace Go.Proofs.YtgphhbadnjfbjaaDoor
open Go.Sx
set_option maxRecDepth 20000
set_option linter.unusedSimpArgs false
set_option linter.unusedVariables false
set_option maxHeartbeats 4000000
set_option linter.unusedVariables false
def nilB:Blk:=⟨⟨0,0,none⟩,[],.ro (.slice none 0 0) 1 0⟩
theorem MemFits.nils:MemFits [] [nilB,nilB]:=fun w _=>by
  have hh:nilB.holds w:=⟨rfl,none,0,rfl,Nat.le_refl _,fun _=>rfl,fun h=>absurd h (by decide)⟩
  have hf:∀ b,¬ nilB.foot b:=fun b h=>by simp [nilB,Blk.foot,Blk.bn] at h
  refine ⟨⟨fun k hk=>?_,?_⟩,fun b ⟨k,hk,hw,_⟩=>?_,fun b ⟨k,hk,hb⟩=>?_⟩
  · simp only [List.mem_cons,List.not_mem_nil,or_false,or_self] at hk
    rw [hk];exact hh
  · simp only [List.pairwise_cons,List.mem_singleton,List.not_mem_nil,false_implies,implies_true,List.Pairwise.nil,and_true]
    rintro y rfl _ b h _
    exact hf b h
  · simp only [List.mem_cons,List.not_mem_nil,or_false,or_self] at hk
    subst hk;cases hw
  · simp only [List.mem_cons,List.not_mem_nil,or_false,or_self] at hk
    subst hk;exact (hf b hb).elim
theorem string_c2 (a:Addr) (p:AV) (v:Value) (l:List UInt8) (h0:l≠[]∨v = .slice none 0 0) :
    NCall Tryd.prog 27 [.ptr 0 a 0] (bldB a 1 p v l) fun r m=>r = .str l∧m=[nilB,nilB] :=
  (string_c a p v l h0).fits fun r m ⟨h1,h2⟩=>⟨r,_,rfl,by rw [h1];exact MemFits.nils,h2,rfl⟩
namespace Su
structure Wide (c:Cfg):Prop where
  sw:w64 c.sw
  links:∀ x∈c.links,∀ n∈x.l,w64 n
  hosts:∀ x∈c.hosts,∀ n∈x.l,w64 n
  weights:∀ l∈c.weights,∀ n∈l,n<18446744073709551616
  starts:∀ n∈c.starts,w64 n
  ends:∀ n∈c.e,w64 n
theorem Wts.get {G:Heap} {v:Value} {l:List (List Nat)} (h:Wts G v l) {i:Nat} (hi:i<l.length):∃ A cap,Hexs G (.slice A l[i].length cap) l[i]∧SlOk (.slice A l[i].length cap) l[i].length∧G.c ((addrOf v).add i) (.slice A l[i].length cap):=by
  obtain ⟨ps,rfl,h1,h2⟩:=h
  have hi':i<ps.length:=by simpa using hi
  obtain ⟨us,e1,_,e2⟩:=h1.at_ i ps[i] (List.getElem?_eq_getElem hi')
  subst e1
  have h3:=h2 ps[i] (List.getElem_mem hi')
  obtain ⟨A,cap,e,_⟩:=h3.ok
  have e2:=e2.1
  have hd:(AV.hs ps[i].2 ps[i].1.length).den=ps[i].2:=by
    show slOf ps[i].2=_
    exact h3.ok.slOf
  rw [Nat.mul_one,hd,e] at e2
  have hg:(ps.map (·.1))[i]=ps[i].1:=List.getElem_map ..
  rw [hg]
  rw [e] at h3
  exact ⟨A,cap,h3,h3.ok,e2⟩
theorem flat_ge {α:Type} (f:α→List UInt8) (h:∀ x,1≤(f x).length):∀ l:List α,l.length≤(l.flatMap f).length
  | []=>by simp
  | x::l=>by
    have:=flat_ge f h l
    have:=h x
    rw [List.flatMap_cons,List.length_append,List.length_cons]
    omega
theorem line_ge (w:List UInt8) (l:List Int):1≤(line w l).length:=by unfold line;rw [List.length_append];show 1≤_+1;omega
theorem wline_ge (l:List Nat):1≤(wline l).length:=by unfold wline;rw [List.length_append];show 1≤_+1;omega
theorem text_parts (c:Cfg):text c=line wSwitches [c.sw]++(c.links.flatMap fun x=>line wLink x.l)++(c.hosts.flatMap fun x=>line wHost x.l)++c.weights.flatMap wline++line wStarts c.starts++endsT wEnds c.e:=rfl
end Su
theorem text40_c (F:Heap) (hT:TabF F) (c:Su.Cfg) (lv hv wv sv:Value) (h:Su.At F c lv hv wv sv) (hw:Su.Wide c) (hlen:(Su.text c).length≤1000000) :
    NCall Tryd.prog 10 [.agg (Su.cs c lv hv wv sv)] [hpB F] fun r m=>r = .str (Su.text c)∧m=[hpB F]:=by
  refine NCall.fits (K:=fun r m=>r = .str (Su.text c)∧MemFits m [hpB F]) ?_ fun r m' h=>⟨r,_,rfl,h.2,h.1,rfl⟩
  have hlok:=h.l.ok
  have hhok:=h.h.ok
  have hsok:=h.s.ok
  have hwok:SlOk wv c.weights.length:=by
    obtain ⟨ps,e,h1,_⟩:=h.w
    have:=h1.ok
    rwa [e,List.length_map]
  have hparts:=Su.text_parts c
  have hnS:NCall Tryd.prog 23 [.hs sv c.starts.length] [hpB F] fun r m=>r = .str (Su.nums c.starts)∧m=[hpB F]:=numbers40_c F hT sv c.starts h.s (by
    have h1:=Su.nums_ge c.starts
    have h2:(Su.line Su.wStarts c.starts).length≤(Su.text c).length:=by rw [hparts];simp only [List.length_append];omega
    unfold Su.line at h2
    simp only [List.length_append] at h2
    omega) hw.starts
  have hn0:∀ (v:Value) (t:TypeId),NCall Tryd.prog 23 [.sl 1 v 1] [hpB F,⟨addrOf v,[.int .i64 c.sw],.row v t 1 1⟩] fun r m=>r = .str (Su.nums [c.sw])∧m=[hpB F,⟨addrOf v,[.int .i64 c.sw],.row v t 1 1⟩]:=fun v t=>numbersO_c F hT v [c.sw] (by simp) (fun n hn=>by rw [List.mem_singleton.1 hn];exact hw.sw) t
  have hq0:(Su.nums [c.sw]).length≤22:=Su.nums_le [c.sw] (fun n hn=>by rw [List.mem_singleton.1 hn];exact hw.sw)
  have hT0:Su.line Su.wSwitches [c.sw]=[115,119,105,116,99,104,101,115]++Su.nums [c.sw]++[10]:=rfl
  rw [hT0] at hparts
  generalize Su.nums [c.sw]=q0 at *
  unfold Su.cs
  refine ncall_of Tryd.func10 rfl (by decide) ?_
  (repeat' (first|(with_reducible first|(refine hK _ _ ?_;clear hK K)|(refine hK _ ?_;clear hK K))|((with_reducible refine z25 ?_);intro K hK;(conv=>whnf))|(with_reducible refine z0 ?_)|((first|(with_reducible refine NN.a5 ?_)|((with_reducible refine NH.mk ?s ?_);case s=>(and_intros<;>first|with_reducible rfl|((with_reducible refine gLen ?_);rfl)|omega|(simp only [List.length_append,List.length_cons,List.length_nil];omega)))|((with_reducible refine NCall.isF 23 ?_);refine NCall.subE [0,3] (hn0 _ _) rfl (by decide) rfl rfl ?_)|((with_reducible refine NCall.isF 22 ?_);refine NCall.subw [2] _ _ (write0_c ⟨_,0,none⟩ ([115,119,105,116,99,104,101,115]++q0++[10]) (by simp;omega)) rfl (by decide) rfl ?_;rintro _ _ ⟨u0,rfl,rfl⟩;refine ⟨Nat.le_of_ble_eq_true rfl,_,rfl,?_⟩)|(with_reducible refine NS.keep ?_))<;>(conv=>whnf))|(with_reducible first|refine z3 ?_|refine z4 ?_|refine z5 ?_|refine z1 ?_|refine z2 ?_)|((with_reducible refine gF ?_);(refine z33 rfl ?_;intro K hK;(conv=>whnf)))|((intro _;skip)<;>(conv=>whnf))))
  rename_i b1 b2 b3
  have hP0:([115,119,105,116,99,104,101,115]++q0++[10]).length≤1000:=by simp;omega
  generalize hP:[115,119,105,116,99,104,101,115]++q0++[10]=P at *
  have hcl:=Su.flat_take (fun x:Su.Lk=>Su.line Su.wLink x.l) c.links
  have hch:=Su.flat_take (fun x:Su.Hs=>Su.line Su.wHost x.l) c.hosts
  have hcw:=Su.flat_take Su.wline c.weights
  have htot:=congrArg List.length hparts
  simp only [List.length_append] at htot
  have hbl:c.links.length≤1000000:=by have:=Su.flat_ge (fun x:Su.Lk=>Su.line Su.wLink x.l) (fun x=>Su.line_ge _ _) c.links;omega
  have hbh:c.hosts.length≤1000000:=by have:=Su.flat_ge (fun x:Su.Hs=>Su.line Su.wHost x.l) (fun x=>Su.line_ge _ _) c.hosts;omega
  have hbw:c.weights.length≤1000000:=by have:=Su.flat_ge Su.wline Su.wline_ge c.weights;omega
  refine st_auto (α:=Nat × Value × List UInt8) (fun (i,u,tx)=>i≤c.links.length∧tx=P++(c.links.take i).flatMap (fun x:Su.Lk=>Su.line Su.wLink x.l)) (fun (i,u,tx)=>[.keep,.keep,.keep,.keep,.keep,.drop,.keep,.keep,.keep,.keep,.keep,.keep,.keep,.keep,.keep,.keep,.keep,.keep,.keep,.keep,.keep,.keep,.keep,.keep,.keep,.keep,.set (.int .i64 i),.drop,.drop,.drop,.drop,.drop,.drop,.drop,.drop,.drop,.drop,.drop,.drop,.drop,.drop,.drop,.drop,.drop,.drop,.drop,.drop,.drop,.keep,.keep,.keep,.keep,.keep,.keep,.keep,.keep,.keep,.keep,.keep,.keep,.keep,.keep,.keep,.keep,.keep,.keep,.keep,.keep,.keep,.keep,.keep,.keep,.keep,.keep,.keep,.keep,.keep,.keep,.keep,.keep,.keep,.keep,.keep,.keep,.keep,.keep,.keep,.keep,.keep,.keep,.keep,.keep,.keep,.keep,.keep,.keep,.keep,.keep,.keep,.keep,.keep,.keep,.keep,.keep,.keep,.keep,.keep,.keep,.keep,.keep,.keep,.keep,.keep,.keep])
    (fun (i,u,tx)=>[.keep,.keep,.set ⟨⟨b2,0,none⟩,[.ptr 0 ⟨b2,0,none⟩ 0,.sl 1 u tx.length],.var 61⟩,.keep,.set ⟨addrOf u,Bld.bytesAV tx,.row u 5 1 tx.length⟩])
    (fun (i,u,tx)=>c.links.length - i) (0,u0,P) ⟨Nat.zero_le _,by simp⟩ ?_ ?_ ?_
  · repeat (first|exact FitsSl.nil|refine FitsSl.any ?_|refine FitsSl.cons (Fit1.int (by first | rfl | omega)) ?_|refine FitsSl.cons (Fit1.str rfl) ?_|refine FitsSl.cons (Fit1.same (by intro h;cases h) (by with_reducible rfl)) ?_)
  · exact MemFits.eq rfl
  (intro ⟨i,u,tx⟩ ⟨hi,htx⟩;intro K hK;(conv=>whnf);refine hK _ _ ?_;clear hK K)
  dsimp only at hi htx ⊢
  by_cases hlt:i<c.links.length
  · obtain ⟨e0,e1,e2,e3,e4,e5⟩:=RowF.get6 (f0:=fun x:Su.Lk=>Value.int .i64 x.a) (f1:=fun x=>.int .i64 x.pa) (f2:=fun x=>.int .i64 x.b) (f3:=fun x=>.int .i64 x.pb) (f4:=fun x=>.int .i64 x.lo) (f5:=fun x=>.int .i64 x.hi) h.l hlt
    have hx:=hw.links _ (List.getElem_mem hlt)
    have hnx:=Su.flat_next (fun x:Su.Lk=>Su.line Su.wLink x.l) c.links i hlt
    have hle:=hcl (i+1)
    have hq:=Su.nums_le c.links[i].l hx
    rw [hnx,List.length_append] at hle
    have htl:tx.length=P.length+((c.links.take i).flatMap (fun x:Su.Lk=>Su.line Su.wLink x.l)).length:=by rw [htx,List.length_append]
    generalize c.links[i]=x at *
    have hn:∀ (v:Value) (t:TypeId),NCall Tryd.prog 23 [.sl 1 v 6] [hpB F,⟨addrOf v,[.int .i64 x.a,.int .i64 x.pa,.int .i64 x.b,.int .i64 x.pb,.int .i64 x.lo,.int .i64 x.hi],.row v t 1 6⟩] fun r m=>r = .str (Su.nums x.l)∧m=[hpB F,⟨addrOf v,[.int .i64 x.a,.int .i64 x.pa,.int .i64 x.b,.int .i64 x.pb,.int .i64 x.lo,.int .i64 x.hi],.row v t 1 6⟩]:=fun v t=>numbersO_c F hT v x.l (by simp [Su.Lk.l]) hx t
    have hline:Su.line Su.wLink x.l=[108,105,110,107]++Su.nums x.l++[10]:=rfl
    rw [hline] at hnx hle
    have hq:(Su.nums x.l).length≤132:=hq
    generalize Su.nums x.l=q at *
    have hnew:tx++([108,105,110,107]++q++[10])=P++(c.links.take (i+1)).flatMap (fun x:Su.Lk=>Su.line Su.wLink x.l):=by rw [hnx,htx,List.append_assoc]
    have hwr:=write_c ⟨b2,0,none⟩ (.ptr 0 ⟨b2,0,none⟩ 0) u tx ([108,105,110,107]++q++[10]) (.inr rfl) (by
      simp only [List.length_append,List.length_cons,List.length_nil] at hle ⊢
      omega)
    clear hle htl hnx htx
    (repeat' (first|(with_reducible first|(refine hK _ _ ?_;clear hK K)|(refine hA ?_;clear hA hB A B))|((with_reducible refine z25 ?_);intro K hK;(conv=>whnf))|(with_reducible refine z0 ?_)|((first|((with_reducible refine NV.i64 ?s ?_);case s=>omega)|((with_reducible refine NIf.decY ?s ?_);case s=>omega)|(with_reducible first|refine NN.cast ?_|refine NN.a5 ?_|refine NN.keep ?_)|((with_reducible refine NH.mk ?s ?_);case s=>(and_intros<;>first|with_reducible rfl|((with_reducible refine gOnes ?_);rfl)|((with_reducible refine gLen ?_);rfl)|omega|(simp only [List.length_append,List.length_cons,List.length_nil];omega)))|((with_reducible refine NCall.isF 23 ?_);refine NCall.subE [0,6] (hn _ _) rfl (by decide) rfl rfl ?_)|((with_reducible refine NCall.isF 22 ?_);refine NCall.subw [2,4] _ _ (hwr) rfl (by decide) rfl ?_;rintro _ _ ⟨u2,rfl,rfl⟩;refine ⟨Nat.le_of_ble_eq_true rfl,_,rfl,?_⟩)|(with_reducible first|refine NS.keep ?_|refine NLd.of (by with_reducible assumption) ?_))<;>(conv=>whnf))|(with_reducible first|refine z3 ?_|refine z4 ?_|refine z5 ?_|refine z6 ?_)|((with_reducible refine z29 ?_);intro A B hA hB;(conv=>whnf))|(with_reducible first|refine z1 ?_|refine z2 ?_|refine z9 ?_)|((intro _;skip)<;>(conv=>whnf))))
    refine st_round (i+1,u2,tx++([108,105,110,107]++q++[10])) ⟨hlt,hnew⟩ (by dsimp only;omega) ?_ (MemFits.pre 5 rfl)
    repeat (first|exact FitsSl.nil|refine FitsSl.any ?_|refine FitsSl.cons (Fit1.int (by first | rfl | omega)) ?_|refine FitsSl.cons (Fit1.str rfl) ?_|refine FitsSl.cons (Fit1.same (by intro h;cases h) (by with_reducible rfl)) ?_)
  have hi2:i=c.links.length:=by omega
  subst hi2
  rw [List.take_length] at htx
  clear hcl hlt hi
  rw [← htx] at hparts
  have htot:=congrArg List.length hparts
  simp only [List.length_append] at htot
  (repeat' (first|(with_reducible first|(refine hK _ _ ?_;clear hK K)|(refine hB ?_;clear hA hB A B))|((with_reducible refine z25 ?_);intro K hK;(conv=>whnf))|(with_reducible refine z0 ?_)|((first|((with_reducible refine NIf.decN ?s ?_);case s=>omega)|(with_reducible refine NN.a5 ?_)|((with_reducible refine NH.mk ?s ?_);case s=>(and_intros<;>first|with_reducible rfl|omega)))<;>(conv=>whnf))|(with_reducible first|refine z3 ?_|refine z4 ?_|refine z5 ?_|refine z7 ?_)|((with_reducible refine z29 ?_);intro A B hA hB;(conv=>whnf))|(with_reducible first|refine z1 ?_|refine z2 ?_|refine z10 ?_|refine z11 ?_|refine z19 ?_)))
  refine st_auto (α:=Nat × Value × List UInt8) (fun (i,w,ty)=>i≤c.hosts.length∧ty=tx++(c.hosts.take i).flatMap (fun x:Su.Hs=>Su.line Su.wHost x.l)) (fun (i,w,ty)=>[.keep,.keep,.keep,.keep,.keep,.keep,.keep,.drop,.keep,.keep,.keep,.keep,.keep,.keep,.keep,.keep,.keep,.keep,.keep,.keep,.keep,.keep,.keep,.keep,.keep,.keep,.keep,.keep,.keep,.keep,.keep,.keep,.keep,.keep,.keep,.keep,.keep,.keep,.keep,.keep,.keep,.keep,.keep,.keep,.keep,.keep,.keep,.keep,.keep,.keep,.keep,.keep,.set (.int .i64 i),.drop,.drop,.drop,.drop,.drop,.drop,.drop,.drop,.drop,.drop,.drop,.drop,.drop,.keep,.keep,.keep,.keep,.keep,.keep,.keep,.keep,.keep,.keep,.keep,.keep,.keep,.keep,.keep,.keep,.keep,.keep,.keep,.keep,.keep,.keep,.keep,.keep,.keep,.keep,.keep,.keep,.keep,.keep,.keep,.keep,.keep,.keep,.keep,.keep,.keep,.keep,.keep,.keep,.keep,.keep,.keep,.keep,.keep,.keep,.keep,.keep])
    (fun (i,w,ty)=>[.keep,.keep,.set ⟨⟨b2,0,none⟩,[.ptr 0 ⟨b2,0,none⟩ 0,.sl 1 w ty.length],.var 61⟩,.keep,.set ⟨addrOf w,Bld.bytesAV ty,.row w 5 1 ty.length⟩])
    (fun (i,w,ty)=>c.hosts.length - i) (0,u,tx) ⟨Nat.zero_le _,by simp⟩ ?_ ?_ ?_
  · repeat (first|exact FitsSl.nil|refine FitsSl.any ?_|refine FitsSl.cons (Fit1.int (by first | rfl | omega)) ?_|refine FitsSl.cons (Fit1.bool rfl) ?_|refine FitsSl.cons (Fit1.str rfl) ?_|refine FitsSl.cons (Fit1.same (by intro h;cases h) (by with_reducible rfl)) ?_)
  · exact MemFits.eq rfl
  (intro ⟨i,w,ty⟩ ⟨hi,hty⟩;intro K hK;(conv=>whnf);refine hK _ _ ?_;clear hK K)
  dsimp only at hi hty ⊢
  by_cases hlt:i<c.hosts.length
  · obtain ⟨e0,e1⟩:=RowF.get2 (f0:=fun x:Su.Hs=>Value.int .i64 x.at_) (f1:=fun x=>.int .i64 x.port) h.h hlt
    have hx:=hw.hosts _ (List.getElem_mem hlt)
    have hnx:=Su.flat_next (fun x:Su.Hs=>Su.line Su.wHost x.l) c.hosts i hlt
    have hle:=hch (i+1)
    have hq:=Su.nums_le c.hosts[i].l hx
    rw [hnx,List.length_append] at hle
    have htl:ty.length=tx.length+((c.hosts.take i).flatMap (fun x:Su.Hs=>Su.line Su.wHost x.l)).length:=by rw [hty,List.length_append]
    generalize c.hosts[i]=x at *
    have hn:∀ (v:Value) (t:TypeId),NCall Tryd.prog 23 [.sl 1 v 2] [hpB F,⟨addrOf v,[.int .i64 x.at_,.int .i64 x.port],.row v t 1 2⟩] fun r m=>r = .str (Su.nums x.l)∧m=[hpB F,⟨addrOf v,[.int .i64 x.at_,.int .i64 x.port],.row v t 1 2⟩]:=fun v t=>numbersO_c F hT v x.l (by simp [Su.Hs.l]) hx t
    have hline:Su.line Su.wHost x.l=[104,111,115,116]++Su.nums x.l++[10]:=rfl
    rw [hline] at hnx hle
    have hq:(Su.nums x.l).length≤44:=hq
    generalize Su.nums x.l=q at *
    have hnew:ty++([104,111,115,116]++q++[10])=tx++(c.hosts.take (i+1)).flatMap (fun x:Su.Hs=>Su.line Su.wHost x.l):=by rw [hnx,hty,List.append_assoc]
    have hwr:=write_c ⟨b2,0,none⟩ (.ptr 0 ⟨b2,0,none⟩ 0) w ty ([104,111,115,116]++q++[10]) (.inr rfl) (by
      simp only [List.length_append,List.length_cons,List.length_nil] at hle ⊢
      omega)
    clear hle htl hnx hty
    (repeat' (first|(with_reducible first|(refine hK _ _ ?_;clear hK K)|(refine hA ?_;clear hA hB A B))|((with_reducible refine z25 ?_);intro K hK;(conv=>whnf))|(with_reducible refine z0 ?_)|((first|((with_reducible refine NV.i64 ?s ?_);case s=>omega)|((with_reducible refine NIf.decY ?s ?_);case s=>omega)|(with_reducible first|refine NN.cast ?_|refine NN.a5 ?_|refine NN.keep ?_)|((with_reducible refine NH.mk ?s ?_);case s=>(and_intros<;>first|with_reducible rfl|((with_reducible refine gOnes ?_);rfl)|((with_reducible refine gLen ?_);rfl)|omega|(simp only [List.length_append,List.length_cons,List.length_nil];omega)))|((with_reducible refine NCall.isF 23 ?_);refine NCall.subE [0,6] (hn _ _) rfl (by decide) rfl rfl ?_)|((with_reducible refine NCall.isF 22 ?_);refine NCall.subw [2,4] _ _ (hwr) rfl (by decide) rfl ?_;rintro _ _ ⟨u2,rfl,rfl⟩;refine ⟨Nat.le_of_ble_eq_true rfl,_,rfl,?_⟩)|(with_reducible first|refine NS.keep ?_|refine NLd.of (by with_reducible assumption) ?_))<;>(conv=>whnf))|(with_reducible first|refine z3 ?_|refine z4 ?_|refine z5 ?_|refine z6 ?_)|((with_reducible refine z29 ?_);intro A B hA hB;(conv=>whnf))|(with_reducible first|refine z1 ?_|refine z2 ?_|refine z9 ?_)|((intro _;skip)<;>(conv=>whnf))))
    refine st_round (i+1,u2,ty++([104,111,115,116]++q++[10])) ⟨hlt,hnew⟩ (by dsimp only;omega) ?_ (MemFits.pre 5 rfl)
    repeat (first|exact FitsSl.nil|refine FitsSl.any ?_|refine FitsSl.cons (Fit1.int (by first | rfl | omega)) ?_|refine FitsSl.cons (Fit1.bool rfl) ?_|refine FitsSl.cons (Fit1.str rfl) ?_|refine FitsSl.cons (Fit1.same (by intro h;cases h) (by with_reducible rfl)) ?_)
  have hi2:i=c.hosts.length:=by omega
  subst hi2
  rw [List.take_length] at hty
  clear hch hlt hi
  rw [← hty] at hparts
  have htot:=congrArg List.length hparts
  simp only [List.length_append] at htot
  (repeat' (first|(with_reducible first|(refine hK _ _ ?_;clear hK K)|(refine hB ?_;clear hA hB A B))|((with_reducible refine z25 ?_);intro K hK;(conv=>whnf))|(with_reducible refine z0 ?_)|((first|((with_reducible refine NIf.decN ?s ?_);case s=>omega)|(with_reducible refine NN.a5 ?_)|((with_reducible refine NH.mk ?s ?_);case s=>(and_intros<;>first|with_reducible rfl|omega)))<;>(conv=>whnf))|(with_reducible first|refine z3 ?_|refine z4 ?_|refine z5 ?_|refine z7 ?_)|((with_reducible refine z29 ?_);intro A B hA hB;(conv=>whnf))|(with_reducible first|refine z1 ?_|refine z2 ?_|refine z10 ?_|refine z11 ?_|refine z19 ?_)))
  refine st_auto (α:=Nat × Value × List UInt8) (fun (i,y,tz)=>i≤c.weights.length∧tz=ty++(c.weights.take i).flatMap Su.wline) (fun (i,y,tz)=>[.keep,.keep,.keep,.keep,.keep,.keep,.keep,.keep,.keep,.drop,.keep,.drop,.keep,.keep,.keep,.keep,.keep,.keep,.keep,.keep,.keep,.keep,.keep,.keep,.keep,.keep,.keep,.keep,.keep,.keep,.keep,.keep,.keep,.keep,.keep,.keep,.keep,.keep,.keep,.keep,.keep,.keep,.keep,.keep,.keep,.keep,.keep,.keep,.keep,.keep,.keep,.keep,.keep,.keep,.keep,.keep,.keep,.keep,.keep,.keep,.keep,.keep,.keep,.keep,.keep,.keep,.keep,.keep,.keep,.set (.int .i64 i),.drop,.drop,.drop,.drop,.drop,.drop,.drop,.drop,.drop,.drop,.drop,.drop,.drop,.drop,.drop,.drop,.drop,.keep,.keep,.keep,.keep,.keep,.keep,.keep,.keep,.keep,.keep,.keep,.keep,.keep,.keep,.keep,.keep,.keep,.keep,.keep,.keep,.keep,.keep,.keep,.keep,.keep,.keep,.keep])
    (fun (i,y,tz)=>[.keep,.keep,.set ⟨⟨b2,0,none⟩,[.ptr 0 ⟨b2,0,none⟩ 0,.sl 1 y tz.length],.var 61⟩,.keep,.set ⟨addrOf y,Bld.bytesAV tz,.row y 5 1 tz.length⟩])
    (fun (i,y,tz)=>c.weights.length - i) (0,w,ty) ⟨Nat.zero_le _,by simp⟩ ?_ ?_ ?_
  · repeat (first|exact FitsSl.nil|refine FitsSl.any ?_|refine FitsSl.cons (Fit1.int (by first | rfl | omega)) ?_|refine FitsSl.cons (Fit1.bool rfl) ?_|refine FitsSl.cons (Fit1.str rfl) ?_|refine FitsSl.cons (Fit1.same (by intro h;cases h) (by with_reducible rfl)) ?_)
  · exact MemFits.eq rfl
  (intro ⟨i,y,tz⟩ ⟨hi,htz⟩;intro K hK;(conv=>whnf);refine hK _ _ ?_;clear hK K)
  dsimp only at hi htz ⊢
  by_cases hlt:i<c.weights.length
  · obtain ⟨A,cap,hx1,hx2,hx3⟩:=h.w.get hlt
    have hx:=hw.weights _ (List.getElem_mem hlt)
    have hnx:=Su.flat_next Su.wline c.weights i hlt
    have hle:=hcw (i+1)
    rw [hnx,List.length_append] at hle
    have htl:tz.length=ty.length+((c.weights.take i).flatMap Su.wline).length:=by rw [htz,List.length_append]
    generalize c.weights[i]=x at *
    have hline:Su.wline x=[119,101,105,103,104,116,115]++Su.hexs x++[10]:=rfl
    have hxl:=Su.hexs_len x
    have hnew:tz++[119,101,105,103,104,116,115]++Su.hexs x++[10]=ty++(c.weights.take (i+1)).flatMap Su.wline:=by rw [hnx,htz,hline];simp only [List.append_assoc]
    rw [hline] at hle
    have hxt:=Su.flat_take (fun n=>32::Su.bits n) x
    simp only [List.length_append,List.length_cons,List.length_nil] at hle
    have hb:tz.length+8+(Su.hexs x).length≤1000000:=by omega
    clear hle htl hnx htz hline
    have hw1:=write_c ⟨b2,0,none⟩ (.ptr 0 ⟨b2,0,none⟩ 0) y tz [119,101,105,103,104,116,115] (.inr rfl) (by simp only [List.length_cons,List.length_nil];omega)
    (repeat' (first|(with_reducible first|(refine hK _ _ ?_;clear hK K)|(refine hA ?_;clear hA hB A B))|((with_reducible refine z25 ?_);intro K hK;(conv=>whnf))|(with_reducible refine z0 ?_)|((first|((with_reducible refine NIf.decY ?s ?_);case s=>omega)|(with_reducible first|refine NN.cast ?_|refine NN.a2 ?_)|((with_reducible refine NH.mk ?s ?_);case s=>(and_intros<;>omega))|((with_reducible refine NCall.isF 22 ?_);refine NCall.subw [2,4] _ _ (hw1) rfl (by decide) rfl ?_;rintro _ _ ⟨u2,rfl,rfl⟩;refine ⟨Nat.le_of_ble_eq_true rfl,_,rfl,?_⟩)|(with_reducible refine NLd.of (by with_reducible assumption) ?_))<;>(conv=>whnf))|(with_reducible first|refine z3 ?_|refine z4 ?_|refine z5 ?_|refine z6 ?_)|((with_reducible refine z29 ?_);intro A B hA hB;(conv=>whnf))|(with_reducible first|refine z1 ?_|refine z2 ?_)))
    refine st_auto (α:=Nat × Value × List UInt8) (fun (k,p,te)=>k≤x.length∧te=tz++[119,101,105,103,104,116,115]++Su.hexs (x.take k)) (fun (k,p,te)=>[.keep,.keep,.keep,.keep,.keep,.keep,.keep,.keep,.keep,.keep,.keep,.drop,.keep,.keep,.keep,.keep,.keep,.keep,.keep,.keep,.keep,.keep,.keep,.keep,.keep,.keep,.keep,.keep,.keep,.keep,.keep,.keep,.keep,.keep,.keep,.keep,.keep,.keep,.keep,.keep,.keep,.keep,.keep,.keep,.keep,.keep,.keep,.keep,.keep,.keep,.keep,.keep,.keep,.keep,.keep,.keep,.keep,.keep,.keep,.keep,.keep,.keep,.keep,.keep,.keep,.keep,.keep,.keep,.keep,.keep,.keep,.keep,.keep,.keep,.keep,.keep,.set (.int .i64 k),.drop,.drop,.drop,.drop,.drop,.drop,.drop,.drop,.keep,.keep,.keep,.keep,.keep,.keep,.keep,.keep,.keep,.keep,.keep,.keep,.keep,.keep,.keep,.keep,.keep,.keep,.keep,.keep,.keep,.keep,.keep,.keep,.keep,.keep,.keep,.keep,.keep])
      (fun (k,p,te)=>[.keep,.keep,.set ⟨⟨b2,0,none⟩,[.ptr 0 ⟨b2,0,none⟩ 0,.sl 1 p te.length],.var 61⟩,.keep,.set ⟨addrOf p,Bld.bytesAV te,.row p 5 1 te.length⟩])
      (fun (k,p,te)=>x.length - k) (0,u2,tz++[119,101,105,103,104,116,115]) ⟨Nat.zero_le _,by simp [Su.hexs]⟩ ?_ ?_ ?_
    · repeat (first|exact FitsSl.nil|refine FitsSl.any ?_|refine FitsSl.cons (Fit1.int (by first | rfl | omega)) ?_|refine FitsSl.cons (Fit1.bool rfl) ?_|refine FitsSl.cons (Fit1.str rfl) ?_|refine FitsSl.cons (Fit1.same (by intro h;cases h) (by with_reducible rfl)) ?_)
    · exact MemFits.eq rfl
    (intro ⟨k,p,te⟩ ⟨hk,hte⟩;intro K hK;(conv=>whnf);refine hK _ _ ?_;clear hK K)
    dsimp only at hk hte ⊢
    by_cases hkl:k<x.length
    · have e0:F.c ((addrOf (.slice A x.length cap)).add k) (.int .u64 x[k]):=RowF.get1 (f0:=fun n=>.int .u64 (n:Nat)) hx1 hkl
      have hxk:=bits40_m x[k] (hx _ (List.getElem_mem hkl))
      have hbl2:=Su.bits_len x[k]
      have hnk:=Su.flat_next (fun n=>32::Su.bits n) x k hkl
      have hnew2:te++([32]++Su.bits x[k])=tz++[119,101,105,103,104,116,115]++Su.hexs (x.take (k+1)):=by
        rw [hte]
        unfold Su.hexs
        rw [hnk]
        simp only [List.append_assoc]
        rfl
      have hxt1:=hxt k
      have htel:te.length=tz.length+7+(Su.hexs (x.take k)).length:=by rw [hte];simp only [List.length_append,List.length_cons,List.length_nil]
      have hxt1:(Su.hexs (x.take k)).length≤(Su.hexs x).length:=hxt1
      clear hte hnk
      generalize x[k]=n at *
      generalize Su.bits n=q at *
      have hw2:=write_c ⟨b2,0,none⟩ (.ptr 0 ⟨b2,0,none⟩ 0) p te ([32]++q) (.inr rfl) (by simp only [List.length_append,List.length_cons,List.length_nil];omega)
      (repeat' (first|(with_reducible first|(refine hK _ _ ?_;clear hK K)|(refine hA ?_;clear hA hB A B))|((with_reducible refine z25 ?_);intro K hK;(conv=>whnf))|(with_reducible refine z0 ?_)|((first|((with_reducible refine NV.i64 ?s ?_);case s=>omega)|((with_reducible refine NIf.decY ?s ?_);case s=>omega)|(with_reducible first|refine NN.cast ?_|refine NN.a2 ?_)|((with_reducible refine NH.mk ?s ?_);case s=>(and_intros<;>first|omega|(simp only [List.length_append,List.length_cons,List.length_nil];omega)))|((with_reducible refine NCall.isF 24 ?_);refine NCall.subE [] (hxk) rfl (by decide) rfl rfl ?_)|((with_reducible refine NCall.isF 22 ?_);refine NCall.subw [2,4] _ _ (hw2) rfl (by decide) rfl ?_;rintro _ _ ⟨u3,rfl,rfl⟩;refine ⟨Nat.le_of_ble_eq_true rfl,_,rfl,?_⟩)|(with_reducible first|refine NS.keep ?_|refine NLd.of (by with_reducible assumption) ?_))<;>(conv=>whnf))|(with_reducible first|refine z3 ?_|refine z4 ?_|refine z5 ?_|refine z6 ?_)|((with_reducible refine z29 ?_);intro A B hA hB;(conv=>whnf))|(with_reducible first|refine z1 ?_|refine z2 ?_|refine z9 ?_)))
      refine st_round (k+1,u3,te++([32]++q)) ⟨hkl,hnew2⟩ (by dsimp only;omega) ?_ (MemFits.pre 5 rfl)
      repeat (first|exact FitsSl.nil|refine FitsSl.any ?_|refine FitsSl.cons (Fit1.int (by first | rfl | omega)) ?_|refine FitsSl.cons (Fit1.bool rfl) ?_|refine FitsSl.cons (Fit1.str rfl) ?_|refine FitsSl.cons (Fit1.same (by intro h;cases h) (by with_reducible rfl)) ?_)
    have hk2:k=x.length:=by omega
    subst hk2
    rw [List.take_length] at hte
    rw [← hte] at hnew
    have htel:te.length≤1000000:=by rw [hte];simp only [List.length_append,List.length_cons,List.length_nil];omega
    have hw3:=write_c ⟨b2,0,none⟩ (.ptr 0 ⟨b2,0,none⟩ 0) p te [10] (.inr rfl) (by simp only [List.length_cons,List.length_nil];omega)
    (repeat' (first|(with_reducible first|(refine hK _ _ ?_;clear hK K)|(refine hB ?_;clear hA hB A B))|((with_reducible refine z25 ?_);intro K hK;(conv=>whnf))|(with_reducible refine z0 ?_)|((first|((with_reducible refine NV.i64 ?s ?_);case s=>omega)|((with_reducible refine NIf.decN ?s ?_);case s=>omega)|((with_reducible refine NCall.isF 22 ?_);refine NCall.subw [2,4] _ _ (hw3) rfl (by decide) rfl ?_;rintro _ _ ⟨u4,rfl,rfl⟩;refine ⟨Nat.le_of_ble_eq_true rfl,_,rfl,?_⟩))<;>(conv=>whnf))|(with_reducible first|refine z3 ?_|refine z4 ?_|refine z7 ?_)|((with_reducible refine z29 ?_);intro A B hA hB;(conv=>whnf))|(with_reducible first|refine z1 ?_|refine z2 ?_|refine z9 ?_|refine z10 ?_|refine z11 ?_|refine z19 ?_)))
    refine st_round (i+1,u4,te++[10]) ⟨hlt,hnew⟩ (by dsimp only;omega) ?_ (MemFits.pre 5 rfl)
    repeat (first|exact FitsSl.nil|refine FitsSl.any ?_|refine FitsSl.cons (Fit1.int (by first | rfl | omega)) ?_|refine FitsSl.cons (Fit1.bool rfl) ?_|refine FitsSl.cons (Fit1.str rfl) ?_|refine FitsSl.cons (Fit1.same (by intro h;cases h) (by with_reducible rfl)) ?_)
  have hi2:i=c.weights.length:=by omega
  subst hi2
  rw [List.take_length] at htz
  clear hcw hlt hi
  rw [← htz] at hparts
  have htot:=congrArg List.length hparts
  simp only [List.length_append] at htot
  have hsl:Su.line Su.wStarts c.starts=[115,116,97,114,116,115]++Su.nums c.starts++[10]:=rfl
  rw [hsl] at hparts htot
  have hqs:(Su.nums c.starts).length≤1000000:=by simp only [List.length_append,List.length_cons,List.length_nil] at htot;omega
  generalize Su.nums c.starts=qs at *
  have hw1:=write_c ⟨b2,0,none⟩ (.ptr 0 ⟨b2,0,none⟩ 0) y tz ([115,116,97,114,116,115]++qs++[10]) (.inr rfl) (by simp only [List.length_append,List.length_cons,List.length_nil] at htot ⊢;omega)
  (repeat' (first|(with_reducible first|(refine hK _ _ ?_;clear hK K)|(refine hB ?_;clear hA hB A B))|((with_reducible refine z25 ?_);intro K hK;(conv=>whnf))|(with_reducible refine z0 ?_)|((first|((with_reducible refine NIf.decN ?s ?_);case s=>omega)|(with_reducible refine NN.a5 ?_)|((with_reducible refine NH.mk ?s ?_);case s=>(and_intros<;>first|with_reducible rfl|(simp only [List.length_append,List.length_cons,List.length_nil];omega)))|((with_reducible refine NCall.isF 23 ?_);refine NCall.subE [0] (hnS) rfl (by decide) rfl rfl ?_)|((with_reducible refine NCall.isF 22 ?_);refine NCall.subw [2,4] _ _ (hw1) rfl (by decide) rfl ?_;rintro _ _ ⟨u5,rfl,rfl⟩;refine ⟨Nat.le_of_ble_eq_true rfl,_,rfl,?_⟩)|(with_reducible refine NS.keep ?_))<;>(conv=>whnf))|(with_reducible first|refine z3 ?_|refine z4 ?_|refine z7 ?_)|((with_reducible refine z29 ?_);intro A B hA hB;(conv=>whnf))|(with_reducible first|refine z1 ?_|refine z2 ?_|refine z10 ?_|refine z11 ?_|refine z19 ?_)))
  refine ncall_of Tryd.func25 rfl (by decide) ?_
  (repeat' (first|(with_reducible first|(refine hK _ _ ?_;clear hK K)|(refine hK _ ?_;clear hK K))|((with_reducible refine z25 ?_);intro K hK;(conv=>whnf))|(with_reducible refine z0 ?_)|(((with_reducible refine NH.mk ?s ?_);case s=>(and_intros<;>first|((with_reducible refine gLen ?_);rfl)|omega))<;>(conv=>whnf))|(with_reducible first|refine z3 ?_|refine z4 ?_|refine z8 ?_|refine z1 ?_|refine z2 ?_)|((with_reducible refine gR ?_);(refine z31 rfl ?_;intro K hK;(conv=>whnf)))|((with_reducible refine gF ?_);(refine z33 rfl ?_;intro K hK;(conv=>whnf)))|((intro _;skip)<;>(conv=>whnf))))
  (conv=>whnf)
  (repeat' (first|(with_reducible (refine hK _ _ ?_;clear hK K))|((with_reducible refine z25 ?_);intro K hK;(conv=>whnf))|(with_reducible refine z0 ?_)|(((with_reducible refine NH.mk ?s ?_);case s=>(and_intros<;>with_reducible rfl))<;>(conv=>whnf))|(with_reducible first|refine z5 ?_|refine z1 ?_|refine z2 ?_)))
  rename_i b5
  have htq:tz.length+qs.length+7≤1000000:=by simp only [List.length_append,List.length_cons,List.length_nil] at htot;omega
  have hql:(tz++([115,116,97,114,116,115]++qs++[10])).length=tz.length+qs.length+7:=by simp only [List.length_append,List.length_cons,List.length_nil];omega
  have hparts:Su.text c=tz++([115,116,97,114,116,115]++qs++[10])++Su.endsT Su.wEnds c.e:=hparts
  generalize tz++([115,116,97,114,116,115]++qs++[10])=tq at *
  have hnE:∀ (n:Int),Su.w64 n→∀ (v:Value) (t:TypeId),NCall Tryd.prog 23 [.sl 1 v 1] [hpB F,⟨addrOf v,[.int .i64 n],.row v t 1 1⟩] fun r m=>r = .str (Su.nums [n])∧m=[hpB F,⟨addrOf v,[.int .i64 n],.row v t 1 1⟩]:=fun n hn v t=>numbersO_c F hT v [n] (by simp) (fun m hm=>by rw [List.mem_singleton.1 hm];exact hn) t
  have hqE:∀ (n:Int),Su.w64 n→(Su.nums [n]).length≤22:=fun n hn=>Su.nums_le [n] (fun m hm=>by rw [List.mem_singleton.1 hm];exact hn)
  have hwE:=hw.ends
  have hlE:∀ w n,Su.line w [n]=w++Su.nums [n]++[10]:=fun _ _=>rfl
  have cr:=rest40_c 1 6 b1
  refine st_auto (α:=Nat × Value × List UInt8) (fun (i,p,te)=>i≤6∧te=tq++Su.endsT (Su.wEnds.take i) (c.e.take i)∧te.length≤1000000+100*i) (fun (i,p,te)=>[.keep,.keep,.keep,.keep,.keep,.keep,.keep,.keep,.keep,.keep,.keep,.keep,.drop,.drop,.keep,.keep,.keep,.keep,.keep,.keep,.keep,.keep,.keep,.keep,.keep,.keep,.keep,.keep,.keep,.keep,.keep,.keep,.keep,.keep,.keep,.keep,.keep,.keep,.keep,.keep,.keep,.keep,.keep,.keep,.keep,.keep,.keep,.keep,.keep,.keep,.keep,.keep,.keep,.keep,.keep,.keep,.keep,.keep,.keep,.keep,.keep,.keep,.keep,.keep,.keep,.keep,.keep,.keep,.keep,.keep,.keep,.keep,.keep,.keep,.keep,.keep,.keep,.keep,.keep,.keep,.keep,.keep,.keep,.keep,.keep,.keep,.keep,.keep,.keep,.keep,.keep,.keep,.keep,.keep,.keep,.set (.int .i64 i),.drop,.drop,.drop,.drop,.drop,.drop,.drop,.drop,.drop,.drop,.drop,.drop,.drop,.drop,.drop,.drop,.drop,.keep])
    (fun (i,p,te)=>[.keep,.keep,.set ⟨⟨b2,0,none⟩,[.ptr 0 ⟨b2,0,none⟩ 0,.sl 1 p te.length],.var 61⟩,.keep,.set ⟨addrOf p,Bld.bytesAV te,.row p 5 1 te.length⟩])
    (fun (i,p,te)=>6 - i) (0,u5,tq) ⟨by decide,by simp [Su.endsT],by omega⟩ ?_ ?_ ?_
  · repeat (first|exact FitsSl.nil|refine FitsSl.any ?_|refine FitsSl.cons (Fit1.int (by first | rfl | omega)) ?_|refine FitsSl.cons (Fit1.bool rfl) ?_|refine FitsSl.cons (Fit1.str rfl) ?_|refine FitsSl.cons (Fit1.same (by intro h;cases h) (by with_reducible rfl)) ?_)
  · exact MemFits.eq rfl
  (intro ⟨i,p,te⟩ ⟨hi,hte,hln⟩;intro K hK;(conv=>whnf);refine hK _ _ ?_;clear hK K)
  dsimp only at hi hte hln ⊢
  have h6:i=0∨i=1∨i=2∨i=3∨i=4∨i=5∨i=6:=by omega
  rcases h6 with rfl | rfl | rfl | rfl | rfl | rfl | rfl
  · have hx:Su.w64 c.rate:=hwE _ (by simp [Su.Cfg.e])
    have hn:=hnE _ hx
    have hq:=hqE _ hx
    have hnew:te++([114,97,116,101]++Su.nums [c.rate]++[10])=tq++Su.endsT (Su.wEnds.take 1) (c.e.take 1):=by
      rw [hte,← hlE]
      simp [Su.endsT,Su.wEnds,Su.Cfg.e]
    clear hnE hqE hte hlE
    generalize Su.nums [c.rate]=q at *
    have hw2:=write_c ⟨b2,0,none⟩ (.ptr 0 ⟨b2,0,none⟩ 0) p te ([114,97,116,101]++q++[10]) (.inr rfl) (by simp only [List.length_append,List.length_cons,List.length_nil];omega)
    (repeat' (first|(with_reducible first|(refine hK _ _ ?_;clear hK K)|(refine hA ?_;clear hA hB A B))|((with_reducible refine z25 ?_);intro K hK;(conv=>whnf))|(with_reducible refine z0 ?_)|((first|((with_reducible refine NV.i64 ?s ?_);case s=>omega)|((with_reducible refine NIf.decY ?s ?_);case s=>omega)|(with_reducible first|refine NN.cast ?_|refine NN.a2 ?_)|((with_reducible refine NH.mk ?s ?_);case s=>(and_intros<;>first|with_reducible rfl|((with_reducible refine gLen ?_);rfl)|omega|(simp only [List.length_append,List.length_cons,List.length_nil];omega)))|((with_reducible refine NCall.isF 26 ?_);refine NCall.subw [1] _ _ (cr _ _ _ _ _ _ _ _ _ _ _) rfl (by decide) rfl ?_;rintro _ _ ⟨g,rfl,rfl⟩;refine ⟨Nat.le_of_ble_eq_true rfl,_,rfl,?_⟩)|((with_reducible refine NCall.isF 23 ?_);refine NCall.subE [0,7] (hn _ _) rfl (by decide) rfl rfl ?_)|((with_reducible refine NCall.isF 22 ?_);refine NCall.subw [2,4] _ _ (hw2) rfl (by decide) rfl ?_;rintro _ _ ⟨u6,rfl,rfl⟩;refine ⟨Nat.le_of_ble_eq_true rfl,_,rfl,?_⟩)|(with_reducible refine NS.keep ?_))<;>(conv=>whnf))|(with_reducible first|refine z3 ?_|refine z4 ?_|refine z5 ?_|refine z6 ?_)|((with_reducible refine z29 ?_);intro A B hA hB;(conv=>whnf))|(with_reducible first|refine z1 ?_|refine z2 ?_|refine z9 ?_)|((intro _;skip)<;>(conv=>whnf))))
    refine st_round (1,u6,te++([114,97,116,101]++q++[10])) ⟨by show 1≤6;decide,hnew,by show (te++([114,97,116,101]++q++[10])).length≤1000000+100*1;simp only [List.length_append,List.length_cons,List.length_nil];omega⟩ (by show 6 - 1<6 - 0;decide) ?_ (MemFits.pre 6 rfl)
    repeat (first|exact FitsSl.nil|refine FitsSl.any ?_|refine FitsSl.cons (Fit1.int (by first | rfl | omega)) ?_|refine FitsSl.cons (Fit1.bool rfl) ?_|refine FitsSl.cons (Fit1.str rfl) ?_|refine FitsSl.cons (Fit1.same (by intro h;cases h) (by with_reducible rfl)) ?_)
  · have hx:Su.w64 c.room:=hwE _ (by simp [Su.Cfg.e])
    have hn:=hnE _ hx
    have hq:=hqE _ hx
    have hnew:te++([114,111,111,109]++Su.nums [c.room]++[10])=tq++Su.endsT (Su.wEnds.take 2) (c.e.take 2):=by
      rw [hte,← hlE]
      simp [Su.endsT,Su.wEnds,Su.Cfg.e]
    clear hnE hqE hte hlE
    generalize Su.nums [c.room]=q at *
    have hw2:=write_c ⟨b2,0,none⟩ (.ptr 0 ⟨b2,0,none⟩ 0) p te ([114,111,111,109]++q++[10]) (.inr rfl) (by simp only [List.length_append,List.length_cons,List.length_nil];omega)
    (repeat' (first|(with_reducible first|(refine hK _ _ ?_;clear hK K)|(refine hA ?_;clear hA hB A B))|((with_reducible refine z25 ?_);intro K hK;(conv=>whnf))|(with_reducible refine z0 ?_)|((first|((with_reducible refine NV.i64 ?s ?_);case s=>omega)|((with_reducible refine NIf.decY ?s ?_);case s=>omega)|(with_reducible first|refine NN.cast ?_|refine NN.a2 ?_)|((with_reducible refine NH.mk ?s ?_);case s=>(and_intros<;>first|with_reducible rfl|((with_reducible refine gLen ?_);rfl)|omega|(simp only [List.length_append,List.length_cons,List.length_nil];omega)))|((with_reducible refine NCall.isF 26 ?_);refine NCall.subw [1] _ _ (cr _ _ _ _ _ _ _ _ _ _ _) rfl (by decide) rfl ?_;rintro _ _ ⟨g,rfl,rfl⟩;refine ⟨Nat.le_of_ble_eq_true rfl,_,rfl,?_⟩)|((with_reducible refine NCall.isF 23 ?_);refine NCall.subE [0,7] (hn _ _) rfl (by decide) rfl rfl ?_)|((with_reducible refine NCall.isF 22 ?_);refine NCall.subw [2,4] _ _ (hw2) rfl (by decide) rfl ?_;rintro _ _ ⟨u6,rfl,rfl⟩;refine ⟨Nat.le_of_ble_eq_true rfl,_,rfl,?_⟩)|(with_reducible refine NS.keep ?_))<;>(conv=>whnf))|(with_reducible first|refine z3 ?_|refine z4 ?_|refine z5 ?_|refine z6 ?_)|((with_reducible refine z29 ?_);intro A B hA hB;(conv=>whnf))|(with_reducible first|refine z1 ?_|refine z2 ?_|refine z9 ?_)|((intro _;skip)<;>(conv=>whnf))))
    refine st_round (2,u6,te++([114,111,111,109]++q++[10])) ⟨by show 2≤6;decide,hnew,by show (te++([114,111,111,109]++q++[10])).length≤1000000+100*2;simp only [List.length_append,List.length_cons,List.length_nil];omega⟩ (by show 6 - 2<6 - 1;decide) ?_ (MemFits.pre 6 rfl)
    repeat (first|exact FitsSl.nil|refine FitsSl.any ?_|refine FitsSl.cons (Fit1.int (by first | rfl | omega)) ?_|refine FitsSl.cons (Fit1.bool rfl) ?_|refine FitsSl.cons (Fit1.str rfl) ?_|refine FitsSl.cons (Fit1.same (by intro h;cases h) (by with_reducible rfl)) ?_)
  · have hx:Su.w64 c.wide:=hwE _ (by simp [Su.Cfg.e])
    have hn:=hnE _ hx
    have hq:=hqE _ hx
    have hnew:te++([119,105,100,101]++Su.nums [c.wide]++[10])=tq++Su.endsT (Su.wEnds.take 3) (c.e.take 3):=by
      rw [hte,← hlE]
      simp [Su.endsT,Su.wEnds,Su.Cfg.e]
    clear hnE hqE hte hlE
    generalize Su.nums [c.wide]=q at *
    have hw2:=write_c ⟨b2,0,none⟩ (.ptr 0 ⟨b2,0,none⟩ 0) p te ([119,105,100,101]++q++[10]) (.inr rfl) (by simp only [List.length_append,List.length_cons,List.length_nil];omega)
    (repeat' (first|(with_reducible first|(refine hK _ _ ?_;clear hK K)|(refine hA ?_;clear hA hB A B))|((with_reducible refine z25 ?_);intro K hK;(conv=>whnf))|(with_reducible refine z0 ?_)|((first|((with_reducible refine NV.i64 ?s ?_);case s=>omega)|((with_reducible refine NIf.decY ?s ?_);case s=>omega)|(with_reducible first|refine NN.cast ?_|refine NN.a2 ?_)|((with_reducible refine NH.mk ?s ?_);case s=>(and_intros<;>first|with_reducible rfl|((with_reducible refine gLen ?_);rfl)|omega|(simp only [List.length_append,List.length_cons,List.length_nil];omega)))|((with_reducible refine NCall.isF 26 ?_);refine NCall.subw [1] _ _ (cr _ _ _ _ _ _ _ _ _ _ _) rfl (by decide) rfl ?_;rintro _ _ ⟨g,rfl,rfl⟩;refine ⟨Nat.le_of_ble_eq_true rfl,_,rfl,?_⟩)|((with_reducible refine NCall.isF 23 ?_);refine NCall.subE [0,7] (hn _ _) rfl (by decide) rfl rfl ?_)|((with_reducible refine NCall.isF 22 ?_);refine NCall.subw [2,4] _ _ (hw2) rfl (by decide) rfl ?_;rintro _ _ ⟨u6,rfl,rfl⟩;refine ⟨Nat.le_of_ble_eq_true rfl,_,rfl,?_⟩)|(with_reducible refine NS.keep ?_))<;>(conv=>whnf))|(with_reducible first|refine z3 ?_|refine z4 ?_|refine z5 ?_|refine z6 ?_)|((with_reducible refine z29 ?_);intro A B hA hB;(conv=>whnf))|(with_reducible first|refine z1 ?_|refine z2 ?_|refine z9 ?_)|((intro _;skip)<;>(conv=>whnf))))
    refine st_round (3,u6,te++([119,105,100,101]++q++[10])) ⟨by show 3≤6;decide,hnew,by show (te++([119,105,100,101]++q++[10])).length≤1000000+100*3;simp only [List.length_append,List.length_cons,List.length_nil];omega⟩ (by show 6 - 3<6 - 2;decide) ?_ (MemFits.pre 6 rfl)
    repeat (first|exact FitsSl.nil|refine FitsSl.any ?_|refine FitsSl.cons (Fit1.int (by first | rfl | omega)) ?_|refine FitsSl.cons (Fit1.bool rfl) ?_|refine FitsSl.cons (Fit1.str rfl) ?_|refine FitsSl.cons (Fit1.same (by intro h;cases h) (by with_reducible rfl)) ?_)
  · have hx:Su.w64 c.lead:=hwE _ (by simp [Su.Cfg.e])
    have hn:=hnE _ hx
    have hq:=hqE _ hx
    have hnew:te++([108,101,97,100]++Su.nums [c.lead]++[10])=tq++Su.endsT (Su.wEnds.take 4) (c.e.take 4):=by
      rw [hte,← hlE]
      simp [Su.endsT,Su.wEnds,Su.Cfg.e]
    clear hnE hqE hte hlE
    generalize Su.nums [c.lead]=q at *
    have hw2:=write_c ⟨b2,0,none⟩ (.ptr 0 ⟨b2,0,none⟩ 0) p te ([108,101,97,100]++q++[10]) (.inr rfl) (by simp only [List.length_append,List.length_cons,List.length_nil];omega)
    (repeat' (first|(with_reducible first|(refine hK _ _ ?_;clear hK K)|(refine hA ?_;clear hA hB A B))|((with_reducible refine z25 ?_);intro K hK;(conv=>whnf))|(with_reducible refine z0 ?_)|((first|((with_reducible refine NV.i64 ?s ?_);case s=>omega)|((with_reducible refine NIf.decY ?s ?_);case s=>omega)|(with_reducible first|refine NN.cast ?_|refine NN.a2 ?_)|((with_reducible refine NH.mk ?s ?_);case s=>(and_intros<;>first|with_reducible rfl|((with_reducible refine gLen ?_);rfl)|omega|(simp only [List.length_append,List.length_cons,List.length_nil];omega)))|((with_reducible refine NCall.isF 26 ?_);refine NCall.subw [1] _ _ (cr _ _ _ _ _ _ _ _ _ _ _) rfl (by decide) rfl ?_;rintro _ _ ⟨g,rfl,rfl⟩;refine ⟨Nat.le_of_ble_eq_true rfl,_,rfl,?_⟩)|((with_reducible refine NCall.isF 23 ?_);refine NCall.subE [0,7] (hn _ _) rfl (by decide) rfl rfl ?_)|((with_reducible refine NCall.isF 22 ?_);refine NCall.subw [2,4] _ _ (hw2) rfl (by decide) rfl ?_;rintro _ _ ⟨u6,rfl,rfl⟩;refine ⟨Nat.le_of_ble_eq_true rfl,_,rfl,?_⟩)|(with_reducible refine NS.keep ?_))<;>(conv=>whnf))|(with_reducible first|refine z3 ?_|refine z4 ?_|refine z5 ?_|refine z6 ?_)|((with_reducible refine z29 ?_);intro A B hA hB;(conv=>whnf))|(with_reducible first|refine z1 ?_|refine z2 ?_|refine z9 ?_)|((intro _;skip)<;>(conv=>whnf))))
    refine st_round (4,u6,te++([108,101,97,100]++q++[10])) ⟨by show 4≤6;decide,hnew,by show (te++([108,101,97,100]++q++[10])).length≤1000000+100*4;simp only [List.length_append,List.length_cons,List.length_nil];omega⟩ (by show 6 - 4<6 - 3;decide) ?_ (MemFits.pre 6 rfl)
    repeat (first|exact FitsSl.nil|refine FitsSl.any ?_|refine FitsSl.cons (Fit1.int (by first | rfl | omega)) ?_|refine FitsSl.cons (Fit1.bool rfl) ?_|refine FitsSl.cons (Fit1.str rfl) ?_|refine FitsSl.cons (Fit1.same (by intro h;cases h) (by with_reducible rfl)) ?_)
  · have hx:Su.w64 c.margin:=hwE _ (by simp [Su.Cfg.e])
    have hn:=hnE _ hx
    have hq:=hqE _ hx
    have hnew:te++([109,97,114,103,105,110]++Su.nums [c.margin]++[10])=tq++Su.endsT (Su.wEnds.take 5) (c.e.take 5):=by
      rw [hte,← hlE]
      simp [Su.endsT,Su.wEnds,Su.Cfg.e]
    clear hnE hqE hte hlE
    generalize Su.nums [c.margin]=q at *
    have hw2:=write_c ⟨b2,0,none⟩ (.ptr 0 ⟨b2,0,none⟩ 0) p te ([109,97,114,103,105,110]++q++[10]) (.inr rfl) (by simp only [List.length_append,List.length_cons,List.length_nil];omega)
    (repeat' (first|(with_reducible first|(refine hK _ _ ?_;clear hK K)|(refine hA ?_;clear hA hB A B))|((with_reducible refine z25 ?_);intro K hK;(conv=>whnf))|(with_reducible refine z0 ?_)|((first|((with_reducible refine NV.i64 ?s ?_);case s=>omega)|((with_reducible refine NIf.decY ?s ?_);case s=>omega)|(with_reducible first|refine NN.cast ?_|refine NN.a2 ?_)|((with_reducible refine NH.mk ?s ?_);case s=>(and_intros<;>first|with_reducible rfl|((with_reducible refine gLen ?_);rfl)|omega|(simp only [List.length_append,List.length_cons,List.length_nil];omega)))|((with_reducible refine NCall.isF 26 ?_);refine NCall.subw [1] _ _ (cr _ _ _ _ _ _ _ _ _ _ _) rfl (by decide) rfl ?_;rintro _ _ ⟨g,rfl,rfl⟩;refine ⟨Nat.le_of_ble_eq_true rfl,_,rfl,?_⟩)|((with_reducible refine NCall.isF 23 ?_);refine NCall.subE [0,7] (hn _ _) rfl (by decide) rfl rfl ?_)|((with_reducible refine NCall.isF 22 ?_);refine NCall.subw [2,4] _ _ (hw2) rfl (by decide) rfl ?_;rintro _ _ ⟨u6,rfl,rfl⟩;refine ⟨Nat.le_of_ble_eq_true rfl,_,rfl,?_⟩)|(with_reducible refine NS.keep ?_))<;>(conv=>whnf))|(with_reducible first|refine z3 ?_|refine z4 ?_|refine z5 ?_|refine z6 ?_)|((with_reducible refine z29 ?_);intro A B hA hB;(conv=>whnf))|(with_reducible first|refine z1 ?_|refine z2 ?_|refine z9 ?_)|((intro _;skip)<;>(conv=>whnf))))
    refine st_round (5,u6,te++([109,97,114,103,105,110]++q++[10])) ⟨by show 5≤6;decide,hnew,by show (te++([109,97,114,103,105,110]++q++[10])).length≤1000000+100*5;simp only [List.length_append,List.length_cons,List.length_nil];omega⟩ (by show 6 - 5<6 - 4;decide) ?_ (MemFits.pre 6 rfl)
    repeat (first|exact FitsSl.nil|refine FitsSl.any ?_|refine FitsSl.cons (Fit1.int (by first | rfl | omega)) ?_|refine FitsSl.cons (Fit1.bool rfl) ?_|refine FitsSl.cons (Fit1.str rfl) ?_|refine FitsSl.cons (Fit1.same (by intro h;cases h) (by with_reducible rfl)) ?_)
  · have hx:Su.w64 c.retry:=hwE _ (by simp [Su.Cfg.e])
    have hn:=hnE _ hx
    have hq:=hqE _ hx
    have hnew:te++([114,101,116,114,121]++Su.nums [c.retry]++[10])=tq++Su.endsT (Su.wEnds.take 6) (c.e.take 6):=by
      rw [hte,← hlE]
      simp [Su.endsT,Su.wEnds,Su.Cfg.e]
    clear hnE hqE hte hlE
    generalize Su.nums [c.retry]=q at *
    have hw2:=write_c ⟨b2,0,none⟩ (.ptr 0 ⟨b2,0,none⟩ 0) p te ([114,101,116,114,121]++q++[10]) (.inr rfl) (by simp only [List.length_append,List.length_cons,List.length_nil];omega)
    (repeat' (first|(with_reducible first|(refine hK _ _ ?_;clear hK K)|(refine hA ?_;clear hA hB A B))|((with_reducible refine z25 ?_);intro K hK;(conv=>whnf))|(with_reducible refine z0 ?_)|((first|((with_reducible refine NV.i64 ?s ?_);case s=>omega)|((with_reducible refine NIf.decY ?s ?_);case s=>omega)|(with_reducible first|refine NN.cast ?_|refine NN.a2 ?_)|((with_reducible refine NH.mk ?s ?_);case s=>(and_intros<;>first|with_reducible rfl|((with_reducible refine gLen ?_);rfl)|omega|(simp only [List.length_append,List.length_cons,List.length_nil];omega)))|((with_reducible refine NCall.isF 26 ?_);refine NCall.subw [1] _ _ (cr _ _ _ _ _ _ _ _ _ _ _) rfl (by decide) rfl ?_;rintro _ _ ⟨g,rfl,rfl⟩;refine ⟨Nat.le_of_ble_eq_true rfl,_,rfl,?_⟩)|((with_reducible refine NCall.isF 23 ?_);refine NCall.subE [0,7] (hn _ _) rfl (by decide) rfl rfl ?_)|((with_reducible refine NCall.isF 22 ?_);refine NCall.subw [2,4] _ _ (hw2) rfl (by decide) rfl ?_;rintro _ _ ⟨u6,rfl,rfl⟩;refine ⟨Nat.le_of_ble_eq_true rfl,_,rfl,?_⟩)|(with_reducible refine NS.keep ?_))<;>(conv=>whnf))|(with_reducible first|refine z3 ?_|refine z4 ?_|refine z5 ?_|refine z6 ?_)|((with_reducible refine z29 ?_);intro A B hA hB;(conv=>whnf))|(with_reducible first|refine z1 ?_|refine z2 ?_|refine z9 ?_)|((intro _;skip)<;>(conv=>whnf))))
    refine st_round (6,u6,te++([114,101,116,114,121]++q++[10])) ⟨by show 6≤6;decide,hnew,by show (te++([114,101,116,114,121]++q++[10])).length≤1000000+100*6;simp only [List.length_append,List.length_cons,List.length_nil];omega⟩ (by show 6 - 6<6 - 5;decide) ?_ (MemFits.pre 6 rfl)
    repeat (first|exact FitsSl.nil|refine FitsSl.any ?_|refine FitsSl.cons (Fit1.int (by first | rfl | omega)) ?_|refine FitsSl.cons (Fit1.bool rfl) ?_|refine FitsSl.cons (Fit1.str rfl) ?_|refine FitsSl.cons (Fit1.same (by intro h;cases h) (by with_reducible rfl)) ?_)
  · have hte:te=Su.text c:=by rw [hte,hparts];rfl
    have hst:=string_c2 ⟨b2,0,none⟩ (.ptr 0 ⟨b2,0,none⟩ 0) p te (.inl (by
      intro e
      rw [e] at hte
      have:=congrArg List.length hte
      rw [hparts,List.length_append] at this
      simp only [List.length_nil] at this
      omega))
    (repeat' (first|(with_reducible first|(refine hK _ _ ?_;clear hK K)|(refine hB ?_;clear hA hB A B)|(refine hK _ ?_;clear hK K))|((with_reducible refine z25 ?_);intro K hK;(conv=>whnf))|(with_reducible refine z0 ?_)|((first|((with_reducible refine NIf.decN ?s ?_);case s=>omega)|((with_reducible refine NCall.isF 27 ?_);refine NCall.subE [2,4] (hst) rfl (by decide) rfl rfl ?_))<;>(conv=>whnf))|(with_reducible first|refine z3 ?_|refine z4 ?_|refine z7 ?_|refine z8 ?_)|((with_reducible refine z29 ?_);intro A B hA hB;(conv=>whnf))|(with_reducible first|refine z1 ?_|refine z2 ?_|refine z10 ?_|refine z11 ?_|refine z19 ?_)|((with_reducible refine gR ?_);(refine z31 rfl ?_;intro K hK;(conv=>whnf)))))
    all_goals exact ⟨by rw [hte],MemFits.pre 1 rfl⟩
end Go.Proofs.YtgphhbadnjfbjaaDoor
