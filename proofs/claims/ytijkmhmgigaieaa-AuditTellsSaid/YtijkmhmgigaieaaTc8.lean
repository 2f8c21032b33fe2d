import Derived.Test.YtijkmhmgigaieaaTc6
import Derived.Test.YtijkmhmgigaieaaSxR
import Derived.Test.YtijkmhmgigaieaaLib2
import Derived.Test.YtijkmhmgigaieaaSrt
namespace Go.Proofs.Ytijkmhmgigaieaa
open Go.Sx Go.RowKit
set_option maxRecDepth 20000
set_option linter.unusedSimpArgs false
set_option linter.unusedVariables false
set_option linter.unusedVariables false
namespace Tc
def encV (x:Int):List AV:=[.int .i64 x]
theorem encV_den (x:Int):(denL (encV x)).toArray=#[.int .i64 x]:=by simp [encV,denL,AV.den]
end Tc
theorem values_c (F:Heap) (v:Value) (n:Nat) (hv:SlOk v n) :
    NCall Try.prog 41 [.hs v n] [hpB F] fun r m=>∃ b:Nat,r = .fn 52 [] [.ptr 1 ⟨b,0,none⟩ 0]∧m=[hpB F,⟨⟨b,0,none⟩,[.hs v n],.var 30⟩]:=by
  refine ncall_of Try.func41 rfl (by decide) ?_
  (repeat' (first|(with_reducible first|(refine hK _ _ ?_;clear hK K)|(refine hK _ ?_;clear hK K))|((with_reducible refine z25 ?_);intro K hK;(conv=>whnf))|(with_reducible first|refine z0 ?_|refine z3 ?_|refine z4 ?_|refine z8 ?_|refine z1 ?_|refine z2 ?_)|((with_reducible refine gR ?_);(refine z31 rfl ?_;intro K hK;(conv=>whnf)))|((with_reducible refine gF ?_);(refine z33 rfl ?_;intro K hK;(conv=>whnf)))|((intro _;skip)<;>(conv=>whnf))))
  exact ⟨_,rfl,rfl⟩
def vaSl (lp:Nat) (cap:Addr) (v:Value) (n:Nat) (j:Nat):List AV:=[.raw (.func (.yield lp) #[] #[]),.hp cap 0,.any,.any,.any,.hs v n,.int .i64 n,.int .i64 j,.any,.any,.any,.any,.any,.any,.any,.any]
def vaInv (lp:Nat) (cap:Addr) (F:Heap) (v:Value) (l:List Int) (J:List Int→World→Prop) (a:Go.Act) (W:World):Prop :=
  ∃ k,k≤l.length∧SlotsOk (vaSl lp cap v l.length k) a.tmps∧a.defers=[]∧MemOk [hpB F] W∧J (l.take k) W
theorem sim_at {m:List Blk} {sl:List AV} {a:Go.Act} {W:World} (h1:SlotsOk sl a.tmps) (h2:a.defers=[]) (h3:MemOk m W):Sim W (own m) sl m a W :=
  ⟨h1,h2,h3,Fr.refl _ W,fun b hb=>.inl hb,fun b hb=>.inl hb⟩
theorem no_wrs {F:Heap} {b:Nat} (h:wrs [hpB F] b):False:=by
  obtain ⟨k',hk',hw,_⟩:=h
  rw [List.mem_singleton] at hk'
  subst hk'
  cases hw
theorem read_kept {F:Heap} {A B:World} (h:Fr (wrs [hpB F]) A B) (hm:MemOk [hpB F] A):MemOk [hpB F] B :=
  hm.keep h.size fun k hk b hb=>h.block b ((hm.holds k hk).lt hb) no_wrs
theorem read_grown {F:Heap} {A B:World} (h:Fr (wrs [hpB F]) A B):A.grownBy B none:=⟨h.os,h.tape,h.output,h.size,fun k hk _=>h.block k hk no_wrs⟩
set_option maxHeartbeats 1000000 in
theorem values_gives (F:Heap) (v:Value) (l:List Int) (hv:Tc.IRow F v l) (hn:l.length≤1000) (m1:List Blk) (hF:hpB F∈m1) (cap:Addr) (hc:F.c cap v) :
    Gives Try.prog 52 [.hp cap 0] m1 Tc.encV l:=by
  have hok:=hv.ok
  have hc0:F.c (cap.add 0) v:=by simpa [Addr.add] using hc
  intro w hm lp J Jx W hW hJ hJx hY h0
  have hmW:MemOk [hpB F] W:=(hm.one_of hF).keep hW.size fun k hk b hb=>by
    rw [List.mem_singleton] at hk
    subst hk
    exact hW.block b ((hm.holds _ hF).lt hb)
  refine callsIn_of_wp Try.func52 rfl trivial ?_ rfl
  have hs0:SlotsOk ([.raw (.func (.yield lp) #[] #[]),.hp cap 0,.any,.any,.any,.any,.any,.any,.any,.any,.any,.any,.any,.any,.any,.any]) (#[.func (.yield lp) #[] #[]]++(denL [.hp cap 0]).toArray++Array.replicate (16 - 2) undef) :=
    args_ok (args:=[.raw (.func (.yield lp) #[] #[]),.hp cap 0]) (n:=16) (by show 2≤_;decide)
  have hslv:slOf v=v:=hok.slOf
  refine wpIn_seq (wpIn_mono (wpIn_wide.2 (codeK_sound (Q:=fun e sl' m'=>e = .normal∧FitsSl sl' (vaSl lp cap v l.length 0)) ?_ (sim_at (sl:=[.raw (.func (.yield lp) #[] #[]),.hp cap 0,.any,.any,.any,.any,.any,.any,.any,.any,.any,.any,.any,.any,.any,.any]) (m:=[hpB F]) (a:=⟨_,[]⟩) hs0 rfl hmW))) ?_)
  · obtain ⟨sA,sC,hvs,hs1,hs2⟩:=hok
    have hok2:SlOk (.slice sA l.length sC) l.length:=⟨sA,sC,rfl,hs1,hs2⟩
    clear hv hslv hs0
    subst hvs
    (repeat' (first|(with_reducible (refine hK _ _ ?_;clear hK K))|((with_reducible refine z25 ?_);intro K hK;(conv=>whnf))|(with_reducible refine z0 ?_)|((first|((with_reducible refine NH.mk ?s ?_);case s=>(and_intros<;>omega))|(with_reducible refine NLd.of (by with_reducible assumption) ?_))<;>(conv=>whnf))|(with_reducible first|refine z4 ?_|refine z1 ?_)))
    refine ⟨rfl,?_⟩
    unfold vaSl
    repeat (first|exact FitsSl.nil|refine FitsSl.any ?_|refine FitsSl.cons (Fit1.int (by first | rfl | omega)) ?_|refine FitsSl.cons (Fit1.same (by intro h;cases h) (by with_reducible rfl)) ?_)
  rintro e a w1 ⟨sl,m,⟨rfl,hfit⟩,hsm⟩
  have hm1:=read_kept hsm.fr hmW
  have hJ1:J (l.take 0) w1:=hJ _ _ _ none h0 (read_grown hsm.fr) (by simp)
  refine wpIn_block (wpIn_loop (vaInv lp cap F v l J) (fun a _=>l.length - (intOf (a.tmps.getD 7 undef)).toNat) ⟨0,Nat.zero_le _,hsm.slots.fits hfit,hsm.defers,hm1,hJ1⟩ ?_)
  rintro a W2 ⟨k,hk,hsl,hd,hm2,hJ2⟩
  have hat7:∀ (a:Go.Act) (k:Nat),SlotsOk (vaSl lp cap v l.length k) a.tmps→(intOf (a.tmps.getD 7 undef)).toNat=k:=fun a k hsl=>by
    have hlt:7<a.tmps.size:=by rw [← hsl.1];exact (by decide:7<16)
    have:=hsl.2 7 (.int .i64 k) a.tmps[7] rfl (by simp [hlt])
    rcases this with h | h
    · cases h
    · simp [Array.getD,hlt,h,AV.den,intOf]
  rw [hat7 a k hsl]
  refine wpIn_seq (wpIn_mono (wpIn_wide.2 (codeK_sound (Q:=fun e sl' m'=>e = .normal∧m'=[hpB F]∧FitsSl sl' [.raw (.func (.yield lp) #[] #[]),.hp cap 0,.any,.any,.any,.hs v l.length,.int .i64 l.length,.int .i64 k,.bool (decide ((k:Int)<(l.length:Int))),.any,.any,.any,.any,.any,.any,.any]) ?_ (sim_at hsl hd hm2))) ?_)
  · unfold vaSl
    (repeat' (first|(with_reducible (refine hK _ _ ?_;clear hK K))|((with_reducible refine z25 ?_);intro K hK;(conv=>whnf))|(with_reducible first|refine z0 ?_|refine z4 ?_|refine z1 ?_)))
    refine ⟨rfl,rfl,?_⟩
    repeat (first|exact FitsSl.nil|refine FitsSl.any ?_|refine FitsSl.cons (Fit1.int (by first | rfl | omega)) ?_|refine FitsSl.cons (Fit1.bool rfl) ?_|refine FitsSl.cons (Fit1.same (by intro h;cases h) (by with_reducible rfl)) ?_)
  rintro e a0 W20 ⟨sl0,m0,⟨rfl,rfl,hfit0⟩,hs00⟩
  have hm20:=read_kept hs00.fr hm2
  have hJ20:J (l.take k) W20:=hJ _ _ _ none hJ2 (read_grown hs00.fr) (by simp)
  have hsl20:=hs00.slots.fits hfit0
  have hd20:=hs00.defers
  clear hs00 hfit0 hm2 hJ2 hsl hd
  refine wpIn_seq (wpIn_mono (wpIn_wide.2 (codeK_sound (Q:=fun e sl' m'=>(e = .normal∧k<l.length∧FitsSl sl' (vaSl lp cap v l.length k)∧m'=[hpB F])∨(e = .exit 0∧k=l.length)) ?_ (sim_at hsl20 hd20 hm20))) ?_)
  · by_cases hlt:k<l.length
    · (repeat' (first|(with_reducible (refine hA ?_;clear hA hB A B))|(((with_reducible refine NIf.decY ?s ?_);case s=>omega)<;>(conv=>whnf))|(with_reducible refine z6 ?_)|((with_reducible refine z29 ?_);intro A B hA hB;(conv=>whnf))))
      refine .inl ⟨rfl,hlt,?_,rfl⟩
      unfold vaSl
      repeat (first|exact FitsSl.nil|refine FitsSl.any ?_|refine FitsSl.cons (Fit1.int (by first | rfl | omega)) ?_|refine FitsSl.cons (Fit1.same (by intro h;cases h) (by with_reducible rfl)) ?_)
    · (repeat' (first|(with_reducible (refine hB ?_;clear hA hB A B))|(((with_reducible refine NIf.decN ?s ?_);case s=>omega)<;>(conv=>whnf))|(with_reducible refine z7 ?_)|((with_reducible refine z29 ?_);intro A B hA hB;(conv=>whnf))))
      exact .inr ⟨rfl,by omega⟩
  rintro e a1 W3 ⟨sl1,m1',hq,hs1'⟩
  rcases hq with ⟨rfl,hlt,hfit1,rfl⟩ | ⟨rfl,rfl⟩
  rotate_left
  · refine ⟨hs1'.defers,_,by simp [results,Try.f52];rfl,⟨_,rfl⟩,.inl ⟨_,rfl,?_⟩⟩
    have:=hJ _ _ _ none hJ20 (read_grown hs1'.fr) (by simp)
    rwa [List.take_length] at this
  have hm3:=read_kept hs1'.fr hm20
  have hJ3:J (l.take k) W3:=hJ _ _ _ none hJ20 (read_grown hs1'.fr) (by simp)
  have hsl3:=hs1'.slots.fits hfit1
  have hd3:=hs1'.defers
  clear hs1' hfit1 hm20 hJ20 hsl20 hd20
  have hx:l[k]?=some l[k]:=List.getElem?_eq_getElem hlt
  have g0:=hv.get hx
  have hxe:l.take (k+1)=l.take k++[l[k]]:=by rw [List.take_add_one,hx,Option.toList_some]
  generalize l[k]=x at *
  refine wpIn_seq (wpIn_block (wpIn_seq (wpIn_mono (wpIn_wide.2 (codeK_sound (Q:=fun e sl' m'=>e = .normal∧m'=[hpB F]∧FitsSl sl' [.raw (.func (.yield lp) #[] #[]),.hp cap 0,.any,.any,.int .i64 x,.hs v l.length,.int .i64 l.length,.int .i64 k,.any,.any,.any,.any,.any,.any,.any,.any]) ?_ (sim_at hsl3 hd3 hm3))) ?_)))
  · unfold vaSl
    (repeat' (first|(with_reducible (refine hK _ _ ?_;clear hK K))|((with_reducible refine z25 ?_);intro K hK;(conv=>whnf))|(with_reducible refine z0 ?_)|((first|(with_reducible first|refine NN.cast ?_|refine NN.a2 ?_)|((with_reducible refine NH.mk ?s ?_);case s=>(and_intros<;>omega))|(with_reducible refine NLd.of (by with_reducible assumption) ?_))<;>(conv=>whnf))|(with_reducible first|refine z4 ?_|refine z1 ?_)))
    refine ⟨rfl,rfl,?_⟩
    repeat (first|exact FitsSl.nil|refine FitsSl.any ?_|refine FitsSl.cons (Fit1.int (by first | rfl | omega)) ?_|refine FitsSl.cons (Fit1.same (by intro h;cases h) (by with_reducible rfl)) ?_)
  rintro e a10 W30 ⟨sl10,m10,⟨rfl,rfl,hfit10⟩,hs10⟩
  have hm30:=read_kept hs10.fr hm3
  have hJ30:J (l.take k) W30:=hJ _ _ _ none hJ3 (read_grown hs10.fr) (by simp)
  have hsl30:=hs10.slots.fits hfit10
  have hd30:=hs10.defers
  clear hs10 hfit10 hm3 hJ3 hsl3 hd3
  refine wpIn_seq (wpIn_region_list ?_)
  have hsplit:∀ (l:List Oper),l=l.take 2++l.drop 2:=fun l=>(List.take_append_drop 2 l).symm
  rw [hsplit (Array.toList _)]
  refine opsK_then (k:=fun sl' m'=>m'=[hpB F]∧FitsSl sl' [.raw (.func (.yield lp) #[] #[]),.hp cap 0,.any,.any,.any,.hs v l.length,.int .i64 l.length,.int .i64 k,.any,.any,.any,.raw (.func (.yield lp) #[] #[]),.int .i64 x,.any,.any,.any]) ?_ (sim_at hsl30 hd30 hm30) ?_
  · show opsK _ _ (_::_::[]) _ _ _
    (repeat' (first|(with_reducible (refine hK _ _ ?_;clear hK K))|((with_reducible refine z25 ?_);intro K hK;(conv=>whnf))|(with_reducible refine z0 ?_)))
    refine ⟨rfl,?_⟩
    repeat (first|exact FitsSl.nil|refine FitsSl.any ?_|refine FitsSl.cons (Fit1.int (by first | rfl | omega)) ?_|refine FitsSl.cons (Fit1.same (by intro h;cases h) (by with_reducible rfl)) ?_)
  rintro sl2 m2 a2 W4 ⟨rfl,hfit2⟩ hs2'
  have hm4:=read_kept hs2'.fr hm30
  have hsl4:=hs2'.slots.fits hfit2
  have hd4:=hs2'.defers
  have hsz4:=hs2'.fr.size
  have hJ4:J (l.take k) W4:=hJ _ _ _ none hJ30 (read_grown hs2'.fr) (by simp)
  have hY':=hY _ x W4 hJ4 (by rw [List.length_take];omega)
  dsimp only at hY'
  rw [Tc.encV_den] at hY'
  have hat:∀ (i:Nat) (y:AV),([.raw (.func (.yield lp) #[] #[]),.hp cap 0,.any,.any,.any,.hs v l.length,.int .i64 l.length,.int .i64 k,.any,.any,.any,.raw (.func (.yield lp) #[] #[]),.int .i64 x,.any,.any,.any])[i]?=some y→y≠.any→a2.tmps[i]?=some y.den:=fun i y hy hne=>by
    have hlt:i<a2.tmps.size:=by rw [← hsl4.1];exact (List.getElem?_eq_some_iff.1 hy).1
    have:=hsl4.2 i y a2.tmps[i] hy (by simp [hlt])
    rcases this with h | h
    · exact (hne h).elim
    · simp [hlt,h]
  refine yield_then (lp:=lp) rfl rfl (by simp [Go.Act.eval,hat 11 _ rfl (by simp),AV.den]) (vs:=#[.int .i64 x]) ?_ hY' ?_
  · simp [Go.Act.eval,hat 12 _ rfl (by simp),AV.den,denL]
  rintro e W5 (⟨rfl,hJ5,hst⟩ | ⟨rfl,hJ5⟩)
  · refine ⟨_,rfl,?_⟩
    have hm5:=hm.still hF hm4 hst
    refine opsK_all (k:=fun sl' m'=>m'=[hpB F]∧FitsSl sl' [.raw (.func (.yield lp) #[] #[]),.hp cap 0,.any,.any,.any,.hs v l.length,.int .i64 l.length,.int .i64 k,.any,.any,.any,.any,.any,.any,.bool false,.any]) ?_ (sim_at (a:=a2.put (some 13) (.bool true)) (hsl4.set 13 (.bool true)) hd4 hm5) ?_
    · (repeat' (first|(with_reducible (refine hK _ _ ?_;clear hK K))|((with_reducible refine z25 ?_);intro K hK;(conv=>whnf))|(with_reducible refine z0 ?_)))
      refine ⟨rfl,?_⟩
      repeat (first|exact FitsSl.nil|refine FitsSl.any ?_|refine FitsSl.cons (Fit1.int (by first | rfl | omega)) ?_|refine FitsSl.cons (Fit1.bool rfl) ?_|refine FitsSl.cons (Fit1.same (by intro h;cases h) (by with_reducible rfl)) ?_)
    rintro sl6 m6 a6 W6 ⟨rfl,hfit6⟩ hs6
    have hm6:=read_kept hs6.fr hm5
    have hJ6:=hJ _ _ _ none hJ5 (read_grown hs6.fr) (by simp)
    have hsl6:=hs6.slots.fits hfit6
    have hd6:=hs6.defers
    refine wpIn_mono (wpIn_wide.2 (codeK_sound (Q:=fun e sl' m'=>e = .normal∧m'=[hpB F]∧FitsSl sl' (vaSl lp cap v l.length k)) ?_ (sim_at hsl6 hd6 hm6))) ?_
    · (repeat' (first|(with_reducible (refine hB ?_;clear hA hB A B))|(((with_reducible refine NIf.no ?s ?_);case s=>rfl)<;>(conv=>whnf))|(with_reducible refine z6 ?_)|((with_reducible refine z29 ?_);intro A B hA hB;(conv=>whnf))))
      refine ⟨rfl,rfl,?_⟩
      unfold vaSl
      repeat (first|exact FitsSl.nil|refine FitsSl.any ?_|refine FitsSl.cons (Fit1.int (by first | rfl | omega)) ?_|refine FitsSl.cons (Fit1.same (by intro h;cases h) (by with_reducible rfl)) ?_)
    rintro e a7 W7 ⟨sl7,m7,⟨rfl,rfl,hfit7⟩,hs7⟩
    have hm7:=read_kept hs7.fr hm6
    have hJ7:=hJ _ _ _ none hJ6 (read_grown hs7.fr) (by simp)
    refine wpIn_mono (wpIn_wide.2 (codeK_sound (Q:=fun e sl' m'=>e = .normal∧m'=[hpB F]∧FitsSl sl' (vaSl lp cap v l.length (k+1))) ?_ (sim_at (hs7.slots.fits hfit7) hs7.defers hm7))) ?_
    · unfold vaSl
      (repeat' (first|(with_reducible (refine hK _ _ ?_;clear hK K))|((with_reducible refine z25 ?_);intro K hK;(conv=>whnf))|(with_reducible refine z0 ?_)|(((with_reducible refine NV.i64 ?s ?_);case s=>omega)<;>(conv=>whnf))|(with_reducible first|refine z4 ?_|refine z1 ?_)))
      refine ⟨rfl,rfl,?_⟩
      repeat (first|exact FitsSl.nil|refine FitsSl.any ?_|refine FitsSl.cons (Fit1.int (by first | rfl | omega)) ?_|refine FitsSl.cons (Fit1.same (by intro h;cases h) (by with_reducible rfl)) ?_)
    rintro e a8 W8 ⟨sl8,m8,⟨rfl,rfl,hfit8⟩,hs8⟩
    have hm8:=read_kept hs8.fr hm7
    have hJ8:=hJ _ _ _ none hJ7 (read_grown hs8.fr) (by simp)
    have hsl8:=hs8.slots.fits hfit8
    refine ⟨⟨k+1,hlt,hsl8,hs8.defers,hm8,by rw [hxe];exact hJ8⟩,?_⟩
    rw [hat7 a8 (k+1) hsl8]
    omega
  · refine ⟨_,rfl,?_⟩
    refine opsK_all (k:=fun sl' m'=>m'=[]∧FitsSl sl' [.any,.any,.any,.any,.any,.any,.any,.any,.any,.any,.any,.any,.any,.any,.bool true,.any]) ?_ (sim_at (m:=[]) (a:=a2.put (some 13) (.bool false)) (hsl4.set 13 (.bool false)) hd4 (MemOk.nil W5)) ?_
    · (repeat' (first|(with_reducible (refine hK _ _ ?_;clear hK K))|((with_reducible refine z25 ?_);intro K hK;(conv=>whnf))|(with_reducible refine z0 ?_)))
      refine ⟨rfl,?_⟩
      repeat (first|exact FitsSl.nil|refine FitsSl.any ?_|refine FitsSl.cons (Fit1.bool rfl) ?_)
    rintro sl6 m6 a6 W6 ⟨rfl,hfit6⟩ hs6
    have hsl6:=hs6.slots.fits hfit6
    have hd6:=hs6.defers
    refine wpIn_mono (wpIn_wide.2 (codeK_sound (Q:=fun e sl' m'=>e = .ret∧m'=[]) ?_ (sim_at hsl6 hd6 hs6.mem))) ?_
    · (repeat' (first|(with_reducible (refine hA ?_;clear hA hB A B))|(((with_reducible refine NIf.yes ?s ?_);case s=>rfl)<;>(conv=>whnf))|(with_reducible refine z8 ?_)|((with_reducible refine z29 ?_);intro A B hA hB;(conv=>whnf))))
      exact ⟨rfl,rfl⟩
    rintro e a7 W7 ⟨sl7,m7,⟨rfl,rfl⟩,hs7⟩
    have gr:∀ {A B:World},Fr (wrs []) A B→A.grownBy B none:=fun h=>⟨h.os,h.tape,h.output,h.size,fun k hk _=>h.block k hk wrs_nil⟩
    refine ⟨hs7.defers,_,by simp [results,Try.f52];rfl,⟨_,rfl⟩,.inr ⟨l.take k++[x],trivial,?_⟩⟩
    exact hJx _ _ _ none (hJx _ _ _ none hJ5 (gr hs6.fr) (by simp)) (gr hs7.fr) (by simp)
end Go.Proofs.Ytijkmhmgigaieaa
