import Derived.Test.YtgphhbadnjfbjaaDoorSu4
import Derived.Test.YtgphhbadnjfbjaaDoorBld
import Derived.Lib.ItoaLen
namespace Go.Proofs.YtgphhbadnjfbjaaDoor
open Go.Sx
set_option maxRecDepth 20000
set_option linter.unusedSimpArgs false
set_option linter.unusedVariables false
set_option maxHeartbeats 4000000
set_option linter.unusedVariables false
namespace Su
def w64 (n:Int):Prop:=-9223372036854775808≤n∧n≤9223372036854775807
theorem flat_take {α:Type} (f:α→List UInt8):∀ (l:List α) (i:Nat),((l.take i).flatMap f).length≤(l.flatMap f).length
  | [],i=>by simp
  | x::l,0=>by simp
  | x::l,i+1=>by
    have:=flat_take f l i
    rw [List.take_succ_cons,List.flatMap_cons,List.flatMap_cons,List.length_append,List.length_append]
    omega
theorem flat_next {α:Type} (f:α→List UInt8) (l:List α) (i:Nat) (h:i<l.length):(l.take (i+1)).flatMap f=(l.take i).flatMap f++f l[i]:=by
  rw [List.take_succ_eq_append_getElem h,List.flatMap_append]
  simp
theorem nums_ge (l:List Int):l.length≤(nums l).length:=by
  unfold nums
  induction l with
  | nil=>simp
  | cons n l ih=>rw [List.flatMap_cons,List.length_append,List.length_cons,List.length_cons];omega
theorem nums_le:∀ l:List Int,(∀ n∈l,w64 n)→(nums l).length≤22*l.length
  | [],_=>by simp [nums]
  | n::l,h=>by
    have h1:=Lib.itoa_length_le n (h n (List.mem_cons_self ..)).1 (h n (List.mem_cons_self ..)).2
    have h2:=nums_le l fun m hm=>h m (List.mem_cons_of_mem _ hm)
    show (List.flatMap (fun n=>32::Lib.itoa n) (n::l)).length≤_
    rw [List.flatMap_cons,List.length_append,List.length_cons,List.length_cons]
    have h2:(List.flatMap (fun n=>32::Lib.itoa n) l).length≤22*l.length:=h2
    omega
theorem hexs_len (l:List Nat):(hexs l).length=17*l.length:=by
  unfold hexs
  induction l with
  | nil=>rfl
  | cons n l ih=>rw [List.flatMap_cons,List.length_append,ih,List.length_cons,bits_len,List.length_cons];omega
end Su
theorem numbers40_c (F:Heap) (hT:TabF F) (v:Value) (l:List Int) (hv:Su.Ints F v l) (hl:l.length≤1000000) (hw:∀ n∈l,Su.w64 n) :
    NCall Tryd.prog 23 [.hs v l.length] [hpB F] fun r m=>r = .str (Su.nums l)∧m=[hpB F]:=by
  refine NCall.fits (K:=fun r m=>r = .str (Su.nums l)∧MemFits m [hpB F]) ?_ fun r m' h=>⟨r,_,rfl,h.2,h.1,rfl⟩
  have hok:=hv.ok
  refine ncall_of Tryd.func23 rfl (by decide) ?_
  (repeat' (first|(with_reducible first|(refine hK _ _ ?_;clear hK K)|(refine hK _ ?_;clear hK K))|((with_reducible refine z25 ?_);intro K hK;(conv=>whnf))|(with_reducible refine z0 ?_)|(((with_reducible refine NH.mk ?s ?_);case s=>(and_intros<;>omega))<;>(conv=>whnf))|(with_reducible first|refine z3 ?_|refine z4 ?_|refine z5 ?_|refine z1 ?_|refine z2 ?_)|((with_reducible refine gF ?_);(refine z33 rfl ?_;intro K hK;(conv=>whnf)))))
  refine st_auto (α:=Nat) (fun i=>i≤l.length) (fun i=>[.keep,.keep,.keep,.set (.str (Su.nums (l.take i))),.keep,.drop,.keep,.keep,.set (.int .i64 i),.drop,.drop,.drop,.drop,.drop,.drop,.drop,.drop,.drop,.keep]) (fun _=>[]) (fun i=>l.length - i) 0 (Nat.zero_le _) ?_ ?_ ?_
  · repeat (first|exact FitsSl.nil|refine FitsSl.any ?_|refine FitsSl.cons (Fit1.int (by first | rfl | omega)) ?_|refine FitsSl.cons (Fit1.str rfl) ?_|refine FitsSl.cons (Fit1.same (by intro h;cases h) (by with_reducible rfl)) ?_)
  · exact MemFits.eq rfl
  (intro i hi;intro K hK;(conv=>whnf);refine hK _ _ ?_;clear hK K)
  by_cases hlt:i<l.length
  · have e0:F.c ((addrOf v).add i) (.int .i64 l[i]):=RowF.get1 (f0:=fun x=>.int .i64 x) hv hlt
    have ci:=itoa_c F hT l[i] (hw _ (List.getElem_mem hlt))
    have hn:Su.nums (l.take (i+1))=Su.nums (l.take i)++(32::Lib.itoa l[i]):=Su.flat_next (fun n=>32::Lib.itoa n) l i hlt
    have hy:=Lib.itoa_length_le l[i] (hw _ (List.getElem_mem hlt)).1 (hw _ (List.getElem_mem hlt)).2
    have ht:=Su.nums_le (l.take i) fun n hn=>hw n (List.mem_of_mem_take hn)
    rw [List.length_take] at ht
    generalize l[i]=y at *
    generalize Lib.itoa y=z at *
    generalize Su.nums (l.take i)=q at *
    (repeat' (first|(with_reducible first|(refine hK _ _ ?_;clear hK K)|(refine hA ?_;clear hA hB A B))|((with_reducible refine z25 ?_);intro K hK;(conv=>whnf))|(with_reducible refine z0 ?_)|((first|((with_reducible refine NV.i64 ?s ?_);case s=>omega)|((with_reducible refine NIf.decY ?s ?_);case s=>omega)|(with_reducible first|refine NN.cast ?_|refine NN.a2 ?_)|((with_reducible refine NH.mk ?s ?_);case s=>(and_intros<;>first|omega|(simp only [List.length_append,List.length_cons,List.length_nil];omega)))|((with_reducible refine NCall.isF 47 ?_);refine NCall.subE [0] (ci) rfl (by decide) rfl rfl ?_)|(with_reducible first|refine NS.keep ?_|refine NLd.of (by with_reducible assumption) ?_))<;>(conv=>whnf))|(with_reducible first|refine z3 ?_|refine z4 ?_|refine z5 ?_|refine z6 ?_)|((with_reducible refine z29 ?_);intro A B hA hB;(conv=>whnf))|(with_reducible first|refine z1 ?_|refine z2 ?_|refine z9 ?_)))
    refine st_round (i+1) hlt (by omega) ?_ (MemFits.pre 1 rfl)
    rw [hn]
    repeat (first|exact FitsSl.nil|refine FitsSl.any ?_|refine FitsSl.cons (Fit1.int (by first | rfl | omega)) ?_|refine FitsSl.cons (Fit1.str rfl) ?_|refine FitsSl.cons (Fit1.same (by intro h;cases h) (by with_reducible rfl)) ?_)
  · obtain rfl:i=l.length:=by omega
    rw [List.take_length]
    (repeat' (first|(with_reducible first|(refine hK _ _ ?_;clear hK K)|(refine hB ?_;clear hA hB A B)|(refine hK _ ?_;clear hK K))|((with_reducible refine z25 ?_);intro K hK;(conv=>whnf))|(with_reducible refine z0 ?_)|(((with_reducible refine NIf.decN ?s ?_);case s=>omega)<;>(conv=>whnf))|(with_reducible first|refine z3 ?_|refine z4 ?_|refine z7 ?_|refine z8 ?_)|((with_reducible refine z29 ?_);intro A B hA hB;(conv=>whnf))|(with_reducible first|refine z1 ?_|refine z2 ?_|refine z10 ?_|refine z11 ?_|refine z19 ?_)|((with_reducible refine gR ?_);(refine z31 rfl ?_;intro K hK;(conv=>whnf)))))
    all_goals exact ⟨rfl,MemFits.pre 1 rfl⟩
theorem numbersO_c (F:Heap) (hT:TabF F) (v:Value) (l:List Int) (hl:l.length≤1000000) (hw:∀ n∈l,Su.w64 n) (t:TypeId) :
    NCall Tryd.prog 23 [.sl 1 v l.length] [hpB F,⟨addrOf v,Su.intAV l,.row v t 1 l.length⟩] fun r m=>r = .str (Su.nums l)∧m=[hpB F,⟨addrOf v,Su.intAV l,.row v t 1 l.length⟩] :=
  NCall.frozen (args':=[.hs v l.length]) Su.intV (numbers40_c F hT (.slice none 0 0) [] RowF.nil (by simp) (by simp)) rfl (MemFits.eq rfl) rfl (Su.intAV_den l) (fun _ _=>rfl) fun G hG hr =>
    (numbers40_c G (hT.mono hG) v l hr hl hw).mono fun _ _ h=>⟨h.1,rfl⟩
theorem write0_c (a:Addr) (s:List UInt8) (hlen:s.length≤140737488355328) :
    NCall Tryd.prog 22 [.ptr 0 a 0,.str s] [⟨a,[.raw (.pointer none),.raw (.slice none 0 0)],.var 61⟩] fun r m=>∃ v',m=bldB a 1 (.ptr 0 a 0) v' s∧r = .tup [.int .i64 s.length,.raw .nilIface] :=
  NCall.pre (write_c a (.raw (.pointer none)) (.slice none 0 0) [] s (.inl rfl) (by simpa using hlen)) rfl ((MemFits.nilRow _ 5 1).trans (MemFits.congr rfl))
end Go.Proofs.YtgphhbadnjfbjaaDoor
