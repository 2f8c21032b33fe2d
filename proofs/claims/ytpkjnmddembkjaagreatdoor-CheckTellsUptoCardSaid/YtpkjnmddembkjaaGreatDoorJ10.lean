/-
  Conditions: the numbers with which a field is asked, by the program; Conditions: the numbers with which a field is asked, rising: by the program, by the document.
-/
import Derived.Test.YtpkjnmddembkjaaGreatDoorJ7
import Derived.Test.YtpkjnmddembkjaaGreatDoorJ9
namespace Go.Sx
/-- One behind the other, the second one known by what the first one says. -/
theorem NCall.rowPre {P : Program} {f : FuncId} {args args' : List AV} {F : Heap} {t : TypeId} {K : AV → List Blk → Prop} (h : NCall P f args' [hpB F, ⟨⟨0, 0, none⟩, [], .row (.slice none 0 0) t 1 0⟩] K) (hargs : denL args' = denL args) : NCall P f args [hpB F] K :=
  NCall.pre h hargs (MemFits.nilRow [hpB F] t 1)
end Go.Sx
namespace Go.Proofs.YtpkjnmddembkjaaGreatDoor
open Go.Sx
set_option maxRecDepth 20000
set_option linter.unusedSimpArgs false
set_option linter.unusedVariables false
set_option maxHeartbeats 4000000
set_option linter.unusedVariables false
namespace Pd
def oncer (p : Int) : List Int → List Int
  | [] => []
  | y :: l => (if y ≠ p then [y] else []) ++ oncer y l
theorem once_cons : ∀ (l : List Int) (x : Int), once (x :: l) = x :: oncer x l
  | [], x => rfl
  | y :: l, x => by
    rw [once, once_cons l y, oncer]
    split
    · rename_i h; subst h; simp
    · rename_i h; rw [if_pos (fun e => h e.symm)]; rfl
theorem oncer_eq : ∀ (l : List Int) (p : Int), ((List.range l.length).filter fun j => decide ((p :: l)[j + 1]! ≠ (p :: l)[j]!)).map (fun j => (p :: l)[j + 1]!) = oncer p l
  | [], p => rfl
  | y :: l, p => by
    have ih := oncer_eq l y
    rw [List.length_cons, List.range_succ_eq_map, List.filter_cons, List.filter_map, oncer, ← ih]
    have e1 : ((fun j => decide ((p :: y :: l)[j + 1]! ≠ (p :: y :: l)[j]!)) ∘ Nat.succ) = fun j => decide ((y :: l)[j + 1]! ≠ (y :: l)[j]!) := by
      funext j
      simp [Function.comp]
    rw [e1]
    by_cases h : y = p
    · subst h
      simp [Function.comp_def]
    · simp [h, Function.comp_def]
theorem comp_once (l : List Int) : Srt.comp l = once l := by
  unfold Srt.comp Go.Lib.compact Go.Lib.compactUpTo
  cases l with
  | nil => rfl
  | cons x l =>
    rw [once_cons, ← oncer_eq, List.length_cons, List.range_succ_eq_map, List.filter_cons, List.filter_map]
    have e1 : (Go.Lib.keeps (x :: l).toArray ∘ Nat.succ) = fun j => decide ((x :: l)[j + 1]! ≠ (x :: l)[j]!) := by
      funext j
      simp [Function.comp, Go.Lib.keeps]
    rw [e1]
    simp [Go.Lib.keeps, Function.comp_def]
theorem values_comp (f : Int) (p : T) : Srt.comp (Srt.sort (vals f p)) = values f p := comp_once _
end Pd
theorem values26_c (f : Int) (hf : -9223372036854775808 ≤ f ∧ f ≤ 9223372036854775807) (t : TypeId) (ht : t = 3) : ∀ (n : Nat) (F : Heap) (p : Pd.T) (u : Value) (out : List Int) (w : Value), Pd.size p ≤ n → out.length + Pd.size p ≤ 2932031007402 → Pd.Row F u p.l →
    NCall Tryz.prog 58 [.sl 1 w out.length, .agg (Pd.cs p u), .int .i64 f] [hpB F, ⟨addrOf w, Srt.av out, .row w t 1 out.length⟩] fun r m => ∃ w', r = .sl 1 w' (out ++ Pd.vals f p).length ∧ m = [hpB F, ⟨addrOf w', Srt.av (out ++ Pd.vals f p), .row w' t 1 (out ++ Pd.vals f p).length⟩]
  | 0, F, p, u, out, w, hn, _, _ => absurd (Pd.size_pos p) (by omega)
  | n + 1, F, ⟨k, a, v, l⟩, u, out, w, hn, hs, hu => by
    subst ht
    refine NCall.fits (K := fun r m => ∃ w', r = .sl 1 w' (out ++ Pd.vals f (.mk k a v l)).length ∧ MemFits m [hpB F, ⟨addrOf w', Srt.av (out ++ Pd.vals f (.mk k a v l)), .row w' 3 1 (out ++ Pd.vals f (.mk k a v l)).length⟩]) ?_ fun r m' ⟨w', h1, h2⟩ => ⟨r, _, rfl, h2, w', h1, rfl⟩
    have hu : Pd.Row F u l := hu
    have hok := hu.ok
    have e2 : Pd.size (.mk k a v l) = 1 + Pd.sizeL l := by rw [Pd.size]
    have hll := Pd.length_le l
    have ih : ∀ x ∈ l, ∀ A, Pd.Row F A x.l → ∀ (o : List Int) (w : Value), o.length + Pd.size x ≤ 2932031007402 → NCall Tryz.prog 58 [.sl 1 w o.length, .agg (Pd.cs x A), .int .i64 f] [hpB F, ⟨addrOf w, Srt.av o, .row w 3 1 o.length⟩]
        fun r m => ∃ w', r = .sl 1 w' (o ++ Pd.vals f x).length ∧ m = [hpB F, ⟨addrOf w', Srt.av (o ++ Pd.vals f x), .row w' 3 1 (o ++ Pd.vals f x).length⟩] :=
      fun x hx A hA o w ho => values26_c f hf 3 rfl n F x A o w (by have := Pd.size_lt (k := k) (f := a) (v := v) hx; omega) ho hA
    generalize ho1 : out ++ (if k = 3 ∧ a = f then [v] else []) = o1
    have hol : o1.length ≤ out.length + 1 := by rw [← ho1, List.length_append]; split <;> simp
    have hav := Srt.av_len out
    have key : ∀ (i : Nat) (w : Value), i ≤ l.length → (o1 ++ Pd.valsL f (l.take i)).length ≤ out.length + 1 + Pd.sizeL (l.take i) := fun i w hi => by
      have := Pd.valsL_len f (l.take i)
      rw [List.length_append]
      omega
    have hfin : out ++ Pd.vals f (.mk k a v l) = o1 ++ Pd.valsL f l := by rw [Pd.vals, ← List.append_assoc, ho1]
    rw [hfin]
    refine ncall_of Tryz.func58 rfl (by decide) ?_
    rw [pd_cs]
    by_cases hka : k = 3 ∧ a = f
    · rw [if_pos hka] at ho1
      obtain ⟨rfl, rfl⟩ := hka
      have hav1 := Srt.av_append out [v]
      rw [ho1] at hav1
      have hol1 : o1.length = out.length + 1 := by rw [← ho1, List.length_append]; rfl
      generalize Srt.av out = ao at *
      (repeat' (first|(with_reducible first|(refine hK _ _ ?_;clear hK K)|(refine hA ?_;clear hA hB A B)|(refine hK _ ?_;clear hK K))|((with_reducible refine gO ?_);(first|((with_reducible first|refine z25 ?_|refine z26 ?_);intro K hK;(conv=>whnf))|(with_reducible refine z0 ?_)))|((first|((with_reducible refine gI ?_);(((with_reducible refine NIf.decY ?s ?_);case s=>with_reducible rfl)))|((with_reducible refine gN ?_);(with_reducible refine NN.a5 ?_))|((with_reducible refine gH ?_);((with_reducible refine NH.mk ?s ?_);case s=>(and_intros<;>first|with_reducible rfl|((with_reducible refine gOnes ?_);rfl)|((with_reducible refine gLen ?_);rfl)|omega))))<;>(conv=>whnf))|((with_reducible refine gX ?_);(first|(with_reducible first|refine z3 ?_|refine z4 ?_|refine z5 ?_)|((with_reducible refine z29 ?_);intro A B hA hB;(conv=>whnf))))|(with_reducible first|refine z1 ?_|refine z2 ?_)|((with_reducible refine gF ?_);((refine z33 rfl ?_);intro K hK;(conv=>whnf)))|((intro _;skip)<;>(conv=>whnf))))
      rename_i w2
      have e0 : o1 ++ Pd.valsL a (l.take 0) = o1 := by simp [Pd.valsL]
      refine st_auto (α := Value × Nat) (fun (w, i) => i ≤ l.length) (fun (w, i) => [.set (.sl 1 w (o1 ++ Pd.valsL a (l.take i)).length), .keep, .keep, .keep, .keep, .keep, .keep, .keep, .drop, .keep, .keep, .keep, .keep, .keep, .keep, .keep, .keep, .keep, .keep, .keep, .keep, .keep, .keep, .keep, .keep, .keep, .set (.int .i64 i), .drop, .drop, .drop, .drop, .drop, .drop, .drop, .drop, .keep]) (fun (w, i) => [.keep, .set ⟨addrOf w, Srt.av (o1 ++ Pd.valsL a (l.take i)), .row w 3 1 (o1 ++ Pd.valsL a (l.take i)).length⟩]) (fun (w, i) => l.length - i) (w2, 0) (Nat.zero_le _) ?_ ?_ ?_
      · dsimp only
        rw [e0]
        rw [hol1]
        repeat (first | exact FitsSl.nil | refine FitsSl.any ?_ | refine FitsSl.cons (Fit1.int (by first | rfl | omega)) ?_ | refine FitsSl.cons (Fit1.bool rfl) ?_ | refine FitsSl.cons (Fit1.str rfl) ?_ | refine FitsSl.cons (Fit1.same (by intro h; cases h) (by with_reducible rfl)) ?_ | refine FitsSl.cons Fit1.nil_sl ?_ | refine FitsSl.cons (Fit1.hs rfl) ?_ | refine FitsSl.cons (Fit1.hp rfl rfl) ?_ | refine FitsSl.cons (Fit1.sl rfl) ?_ | refine FitsSl.cons (Fit1.ptr rfl rfl) ?_ | refine FitsSl.cons Fit1.raw ?_)
      · dsimp only
        rw [e0]
        exact MemFits.congr (by simp only [autoM, hav1, hol1]; rfl)
      (intro ⟨w, i⟩ hi; intro K hK; (conv=>whnf); refine hK _ _ ?_; clear hK K)
      dsimp only
      by_cases hlt : i < l.length
      · have hx : l[i]? = some l[i] := List.getElem?_eq_getElem hlt
        obtain ⟨A, cap, hA, c0, c1, c2, c3⟩ := hu.get hx
        have hmem := List.mem_of_getElem? hx
        have hkey := key i w hi
        have hst := Pd.sizeL_take hlt
        have hle2 := Pd.sizeL_le (l := l) (k := i + 1)
        have hO : o1 ++ Pd.valsL a (l.take (i + 1)) = o1 ++ Pd.valsL a (l.take i) ++ Pd.vals a l[i] := by rw [Pd.valsL_take _ hlt, List.append_assoc]
        have c := ih _ hmem _ hA (o1 ++ Pd.valsL a (l.take i)) w (by omega)
        rw [← hO] at c
        clear ih key
        generalize l[i] = x at *
        obtain ⟨xk, xf, xv, xl⟩ := x
        simp only [Pd.cs, Pd.T.k, Pd.T.f, Pd.T.v, Pd.T.l] at c c0 c1 c2 c3 hA
        generalize o1 ++ Pd.valsL a (l.take i) = O at *
        generalize hO2 : o1 ++ Pd.valsL a (l.take (i + 1)) = O2 at *
        (repeat' (first|(with_reducible first|(refine hK _ _ ?_;clear hK K)|(refine hA ?_;clear hA hB A B))|((with_reducible refine gO ?_);(first|((with_reducible refine z25 ?_);intro K hK;(conv=>whnf))|(with_reducible refine z0 ?_)))|((first|((with_reducible refine gV ?_);(((with_reducible refine NV.i64 ?s ?_);case s=>omega)))|((with_reducible refine gI ?_);(((with_reducible refine NIf.decY ?s ?_);case s=>omega)))|((with_reducible refine gN ?_);(with_reducible first|refine NN.cast ?_|refine NN.keep ?_))|((with_reducible refine gH ?_);((with_reducible refine NH.mk ?s ?_);case s=>(and_intros<;>first|with_reducible rfl|((with_reducible refine gOnes ?_);rfl)|((with_reducible refine gLen ?_);rfl)|omega)))|((with_reducible refine gC ?_);((with_reducible refine NCall.isF 58 ?_);refine NCall.subw [0, 1] _ _ (c) rfl (by decide) rfl ?_; rintro _ _ ⟨w', rfl, rfl⟩; refine ⟨Nat.le_of_ble_eq_true rfl, _, rfl, ?_⟩))|(with_reducible refine NLd.of (by with_reducible assumption) ?_))<;>(conv=>whnf))|((with_reducible refine gX ?_);(first|(with_reducible first|refine z3 ?_|refine z4 ?_|refine z5 ?_|refine z6 ?_)|((with_reducible refine z29 ?_);intro A B hA hB;(conv=>whnf))))|(with_reducible first|refine z1 ?_|refine z2 ?_|refine z9 ?_)|((intro _;skip)<;>(conv=>whnf))))
        refine st_round (w', i + 1) hlt (by show l.length - (i + 1) < l.length - i; omega) ?_ (MemFits.pre 4 ?_)
        · dsimp only
          rw [hO2]
          repeat (first | exact FitsSl.nil | refine FitsSl.any ?_ | refine FitsSl.cons (Fit1.int (by first | rfl | omega)) ?_ | refine FitsSl.cons (Fit1.bool rfl) ?_ | refine FitsSl.cons (Fit1.str rfl) ?_ | refine FitsSl.cons (Fit1.same (by intro h; cases h) (by with_reducible rfl)) ?_ | refine FitsSl.cons Fit1.nil_sl ?_ | refine FitsSl.cons (Fit1.hs rfl) ?_ | refine FitsSl.cons (Fit1.hp rfl rfl) ?_ | refine FitsSl.cons (Fit1.sl rfl) ?_ | refine FitsSl.cons (Fit1.ptr rfl rfl) ?_ | refine FitsSl.cons Fit1.raw ?_)
        · simp only [autoM, List.take, hO2]
          try rfl
      · have hkl : i = l.length := by omega
        subst hkl
        rw [List.take_length]
        (repeat' (first|(with_reducible first|(refine hK _ _ ?_;clear hK K)|(refine hB ?_;clear hA hB A B)|(refine hK _ ?_;clear hK K))|((with_reducible refine gO ?_);(first|((with_reducible refine z25 ?_);intro K hK;(conv=>whnf))|(with_reducible refine z0 ?_)))|((((with_reducible refine gI ?_);(((with_reducible refine NIf.decN ?s ?_);case s=>omega))))<;>(conv=>whnf))|((with_reducible refine gX ?_);(first|(with_reducible first|refine z3 ?_|refine z4 ?_|refine z7 ?_|refine z8 ?_)|((with_reducible refine z29 ?_);intro A B hA hB;(conv=>whnf))))|(with_reducible first|refine z1 ?_|refine z2 ?_|refine z10 ?_|refine z11 ?_|refine z19 ?_)|((with_reducible refine gR ?_);((refine z31 rfl ?_);intro K hK;(conv=>whnf)))))
        all_goals exact ⟨w, rfl, MemFits.pre 2 rfl⟩
    · rw [if_neg hka, List.append_nil] at ho1
      subst o1
      by_cases hk3 : k = 3
      · have haf : a ≠ f := fun e => hka ⟨hk3, e⟩
        (repeat' (first|(with_reducible first|(refine hK _ _ ?_;clear hK K)|(refine hB ?_;clear hA hB A B)|(refine hK _ ?_;clear hK K))|((with_reducible refine gO ?_);(first|((with_reducible first|refine z25 ?_|refine z26 ?_);intro K hK;(conv=>whnf))|(with_reducible refine z0 ?_)))|((first|((with_reducible refine gI ?_);(first|((with_reducible refine NIf.decY ?s ?_);case s=>assumption)|((with_reducible refine NIf.decN ?s ?_);case s=>assumption)))|((with_reducible refine gN ?_);(with_reducible refine NN.a5 ?_))|((with_reducible refine gH ?_);((with_reducible refine NH.mk ?s ?_);case s=>(and_intros<;>first|with_reducible rfl|omega))))<;>(conv=>whnf))|((with_reducible refine gX ?_);(first|(with_reducible first|refine z3 ?_|refine z4 ?_|refine z5 ?_|refine z6 ?_)|((with_reducible refine z29 ?_);intro A B hA hB;(conv=>whnf))))|(with_reducible first|refine z1 ?_|refine z2 ?_)|((with_reducible refine gF ?_);((refine z33 rfl ?_);intro K hK;(conv=>whnf)))|((intro _;skip)<;>(conv=>whnf))))
        have e0 : out ++ Pd.valsL f (l.take 0) = out := by simp [Pd.valsL]
        refine st_auto (α := Value × Nat) (fun (w, i) => i ≤ l.length) (fun (w, i) => [.set (.sl 1 w (out ++ Pd.valsL f (l.take i)).length), .keep, .keep, .keep, .keep, .keep, .keep, .keep, .drop, .keep, .keep, .keep, .keep, .keep, .keep, .keep, .keep, .keep, .keep, .keep, .keep, .keep, .keep, .keep, .keep, .keep, .set (.int .i64 i), .drop, .drop, .drop, .drop, .drop, .drop, .drop, .drop, .keep]) (fun (w, i) => [.keep, .set ⟨addrOf w, Srt.av (out ++ Pd.valsL f (l.take i)), .row w 3 1 (out ++ Pd.valsL f (l.take i)).length⟩]) (fun (w, i) => l.length - i) (w, 0) (Nat.zero_le _) ?_ ?_ ?_
        · dsimp only
          rw [e0]
          repeat (first | exact FitsSl.nil | refine FitsSl.any ?_ | refine FitsSl.cons (Fit1.int (by first | rfl | omega)) ?_ | refine FitsSl.cons (Fit1.bool rfl) ?_ | refine FitsSl.cons (Fit1.str rfl) ?_ | refine FitsSl.cons (Fit1.same (by intro h; cases h) (by with_reducible rfl)) ?_ | refine FitsSl.cons Fit1.nil_sl ?_ | refine FitsSl.cons (Fit1.hs rfl) ?_ | refine FitsSl.cons (Fit1.hp rfl rfl) ?_ | refine FitsSl.cons (Fit1.sl rfl) ?_ | refine FitsSl.cons (Fit1.ptr rfl rfl) ?_ | refine FitsSl.cons Fit1.raw ?_)
        · dsimp only
          rw [e0]
          exact MemFits.eq rfl
        (intro ⟨w, i⟩ hi; intro K hK; (conv=>whnf); refine hK _ _ ?_; clear hK K)
        dsimp only
        by_cases hlt : i < l.length
        · have hx : l[i]? = some l[i] := List.getElem?_eq_getElem hlt
          obtain ⟨A, cap, hA, c0, c1, c2, c3⟩ := hu.get hx
          have hmem := List.mem_of_getElem? hx
          have hkey := key i w hi
          have hst := Pd.sizeL_take hlt
          have hle2 := Pd.sizeL_le (l := l) (k := i + 1)
          have hO : out ++ Pd.valsL f (l.take (i + 1)) = out ++ Pd.valsL f (l.take i) ++ Pd.vals f l[i] := by rw [Pd.valsL_take _ hlt, List.append_assoc]
          have c := ih _ hmem _ hA (out ++ Pd.valsL f (l.take i)) w (by omega)
          rw [← hO] at c
          clear ih key
          generalize l[i] = x at *
          obtain ⟨xk, xf, xv, xl⟩ := x
          simp only [Pd.cs, Pd.T.k, Pd.T.f, Pd.T.v, Pd.T.l] at c c0 c1 c2 c3 hA
          generalize out ++ Pd.valsL f (l.take i) = O at *
          generalize hO2 : out ++ Pd.valsL f (l.take (i + 1)) = O2 at *
          (repeat' (first|(with_reducible first|(refine hK _ _ ?_;clear hK K)|(refine hA ?_;clear hA hB A B))|((with_reducible refine gO ?_);(first|((with_reducible refine z25 ?_);intro K hK;(conv=>whnf))|(with_reducible refine z0 ?_)))|((first|((with_reducible refine gV ?_);(((with_reducible refine NV.i64 ?s ?_);case s=>omega)))|((with_reducible refine gI ?_);(((with_reducible refine NIf.decY ?s ?_);case s=>omega)))|((with_reducible refine gN ?_);(with_reducible first|refine NN.cast ?_|refine NN.keep ?_))|((with_reducible refine gH ?_);((with_reducible refine NH.mk ?s ?_);case s=>(and_intros<;>first|with_reducible rfl|((with_reducible refine gOnes ?_);rfl)|((with_reducible refine gLen ?_);rfl)|omega)))|((with_reducible refine gC ?_);((with_reducible refine NCall.isF 58 ?_);refine NCall.subw [0, 1] _ _ (c) rfl (by decide) rfl ?_; rintro _ _ ⟨w', rfl, rfl⟩; refine ⟨Nat.le_of_ble_eq_true rfl, _, rfl, ?_⟩))|(with_reducible refine NLd.of (by with_reducible assumption) ?_))<;>(conv=>whnf))|((with_reducible refine gX ?_);(first|(with_reducible first|refine z3 ?_|refine z4 ?_|refine z5 ?_|refine z6 ?_)|((with_reducible refine z29 ?_);intro A B hA hB;(conv=>whnf))))|(with_reducible first|refine z1 ?_|refine z2 ?_|refine z9 ?_)|((intro _;skip)<;>(conv=>whnf))))
          refine st_round (w', i + 1) hlt (by show l.length - (i + 1) < l.length - i; omega) ?_ (MemFits.pre 3 ?_)
          · dsimp only
            rw [hO2]
            repeat (first | exact FitsSl.nil | refine FitsSl.any ?_ | refine FitsSl.cons (Fit1.int (by first | rfl | omega)) ?_ | refine FitsSl.cons (Fit1.bool rfl) ?_ | refine FitsSl.cons (Fit1.str rfl) ?_ | refine FitsSl.cons (Fit1.same (by intro h; cases h) (by with_reducible rfl)) ?_ | refine FitsSl.cons Fit1.nil_sl ?_ | refine FitsSl.cons (Fit1.hs rfl) ?_ | refine FitsSl.cons (Fit1.hp rfl rfl) ?_ | refine FitsSl.cons (Fit1.sl rfl) ?_ | refine FitsSl.cons (Fit1.ptr rfl rfl) ?_ | refine FitsSl.cons Fit1.raw ?_)
          · simp only [autoM, List.take, hO2]
            try rfl
        · have hkl : i = l.length := by omega
          subst hkl
          rw [List.take_length]
          (repeat' (first|(with_reducible first|(refine hK _ _ ?_;clear hK K)|(refine hB ?_;clear hA hB A B)|(refine hK _ ?_;clear hK K))|((with_reducible refine gO ?_);(first|((with_reducible refine z25 ?_);intro K hK;(conv=>whnf))|(with_reducible refine z0 ?_)))|((((with_reducible refine gI ?_);(((with_reducible refine NIf.decN ?s ?_);case s=>omega))))<;>(conv=>whnf))|((with_reducible refine gX ?_);(first|(with_reducible first|refine z3 ?_|refine z4 ?_|refine z7 ?_|refine z8 ?_)|((with_reducible refine z29 ?_);intro A B hA hB;(conv=>whnf))))|(with_reducible first|refine z1 ?_|refine z2 ?_|refine z10 ?_|refine z11 ?_|refine z19 ?_)|((with_reducible refine gR ?_);((refine z31 rfl ?_);intro K hK;(conv=>whnf)))))
          all_goals exact ⟨w, rfl, MemFits.pre 2 rfl⟩
      · (repeat' (first|(with_reducible first|(refine hK _ _ ?_;clear hK K)|(refine hB ?_;clear hA hB A B)|(refine hK _ ?_;clear hK K))|((with_reducible refine gO ?_);(first|((with_reducible first|refine z25 ?_|refine z26 ?_);intro K hK;(conv=>whnf))|(with_reducible refine z0 ?_)))|((first|((with_reducible refine gI ?_);(first|((with_reducible refine NIf.decN ?s ?_);case s=>assumption)|((with_reducible refine NIf.no ?s ?_);case s=>rfl)))|((with_reducible refine gN ?_);(with_reducible refine NN.a5 ?_))|((with_reducible refine gH ?_);((with_reducible refine NH.mk ?s ?_);case s=>(and_intros<;>first|with_reducible rfl|omega))))<;>(conv=>whnf))|((with_reducible refine gX ?_);(first|(with_reducible first|refine z3 ?_|refine z4 ?_|refine z5 ?_|refine z6 ?_)|((with_reducible refine z29 ?_);intro A B hA hB;(conv=>whnf))))|(with_reducible first|refine z1 ?_|refine z2 ?_)|((with_reducible refine gF ?_);((refine z33 rfl ?_);intro K hK;(conv=>whnf)))|((intro _;skip)<;>(conv=>whnf))))
        have e0 : out ++ Pd.valsL f (l.take 0) = out := by simp [Pd.valsL]
        refine st_auto (α := Value × Nat) (fun (w, i) => i ≤ l.length) (fun (w, i) => [.set (.sl 1 w (out ++ Pd.valsL f (l.take i)).length), .keep, .keep, .keep, .keep, .keep, .keep, .keep, .drop, .keep, .keep, .keep, .keep, .keep, .keep, .keep, .keep, .keep, .keep, .keep, .keep, .keep, .keep, .keep, .keep, .keep, .set (.int .i64 i), .drop, .drop, .drop, .drop, .drop, .drop, .drop, .drop, .keep]) (fun (w, i) => [.keep, .set ⟨addrOf w, Srt.av (out ++ Pd.valsL f (l.take i)), .row w 3 1 (out ++ Pd.valsL f (l.take i)).length⟩]) (fun (w, i) => l.length - i) (w, 0) (Nat.zero_le _) ?_ ?_ ?_
        · dsimp only
          rw [e0]
          repeat (first | exact FitsSl.nil | refine FitsSl.any ?_ | refine FitsSl.cons (Fit1.int (by first | rfl | omega)) ?_ | refine FitsSl.cons (Fit1.bool rfl) ?_ | refine FitsSl.cons (Fit1.str rfl) ?_ | refine FitsSl.cons (Fit1.same (by intro h; cases h) (by with_reducible rfl)) ?_ | refine FitsSl.cons Fit1.nil_sl ?_ | refine FitsSl.cons (Fit1.hs rfl) ?_ | refine FitsSl.cons (Fit1.hp rfl rfl) ?_ | refine FitsSl.cons (Fit1.sl rfl) ?_ | refine FitsSl.cons (Fit1.ptr rfl rfl) ?_ | refine FitsSl.cons Fit1.raw ?_)
        · dsimp only
          rw [e0]
          exact MemFits.eq rfl
        (intro ⟨w, i⟩ hi; intro K hK; (conv=>whnf); refine hK _ _ ?_; clear hK K)
        dsimp only
        by_cases hlt : i < l.length
        · have hx : l[i]? = some l[i] := List.getElem?_eq_getElem hlt
          obtain ⟨A, cap, hA, c0, c1, c2, c3⟩ := hu.get hx
          have hmem := List.mem_of_getElem? hx
          have hkey := key i w hi
          have hst := Pd.sizeL_take hlt
          have hle2 := Pd.sizeL_le (l := l) (k := i + 1)
          have hO : out ++ Pd.valsL f (l.take (i + 1)) = out ++ Pd.valsL f (l.take i) ++ Pd.vals f l[i] := by rw [Pd.valsL_take _ hlt, List.append_assoc]
          have c := ih _ hmem _ hA (out ++ Pd.valsL f (l.take i)) w (by omega)
          rw [← hO] at c
          clear ih key
          generalize l[i] = x at *
          obtain ⟨xk, xf, xv, xl⟩ := x
          simp only [Pd.cs, Pd.T.k, Pd.T.f, Pd.T.v, Pd.T.l] at c c0 c1 c2 c3 hA
          generalize out ++ Pd.valsL f (l.take i) = O at *
          generalize hO2 : out ++ Pd.valsL f (l.take (i + 1)) = O2 at *
          (repeat' (first|(with_reducible first|(refine hK _ _ ?_;clear hK K)|(refine hA ?_;clear hA hB A B))|((with_reducible refine gO ?_);(first|((with_reducible refine z25 ?_);intro K hK;(conv=>whnf))|(with_reducible refine z0 ?_)))|((first|((with_reducible refine gV ?_);(((with_reducible refine NV.i64 ?s ?_);case s=>omega)))|((with_reducible refine gI ?_);(((with_reducible refine NIf.decY ?s ?_);case s=>omega)))|((with_reducible refine gN ?_);(with_reducible first|refine NN.cast ?_|refine NN.keep ?_))|((with_reducible refine gH ?_);((with_reducible refine NH.mk ?s ?_);case s=>(and_intros<;>first|with_reducible rfl|((with_reducible refine gOnes ?_);rfl)|((with_reducible refine gLen ?_);rfl)|omega)))|((with_reducible refine gC ?_);((with_reducible refine NCall.isF 58 ?_);refine NCall.subw [0, 1] _ _ (c) rfl (by decide) rfl ?_; rintro _ _ ⟨w', rfl, rfl⟩; refine ⟨Nat.le_of_ble_eq_true rfl, _, rfl, ?_⟩))|(with_reducible refine NLd.of (by with_reducible assumption) ?_))<;>(conv=>whnf))|((with_reducible refine gX ?_);(first|(with_reducible first|refine z3 ?_|refine z4 ?_|refine z5 ?_|refine z6 ?_)|((with_reducible refine z29 ?_);intro A B hA hB;(conv=>whnf))))|(with_reducible first|refine z1 ?_|refine z2 ?_|refine z9 ?_)|((intro _;skip)<;>(conv=>whnf))))
          refine st_round (w', i + 1) hlt (by show l.length - (i + 1) < l.length - i; omega) ?_ (MemFits.pre 3 ?_)
          · dsimp only
            rw [hO2]
            repeat (first | exact FitsSl.nil | refine FitsSl.any ?_ | refine FitsSl.cons (Fit1.int (by first | rfl | omega)) ?_ | refine FitsSl.cons (Fit1.bool rfl) ?_ | refine FitsSl.cons (Fit1.str rfl) ?_ | refine FitsSl.cons (Fit1.same (by intro h; cases h) (by with_reducible rfl)) ?_ | refine FitsSl.cons Fit1.nil_sl ?_ | refine FitsSl.cons (Fit1.hs rfl) ?_ | refine FitsSl.cons (Fit1.hp rfl rfl) ?_ | refine FitsSl.cons (Fit1.sl rfl) ?_ | refine FitsSl.cons (Fit1.ptr rfl rfl) ?_ | refine FitsSl.cons Fit1.raw ?_)
          · simp only [autoM, List.take, hO2]
            try rfl
        · have hkl : i = l.length := by omega
          subst hkl
          rw [List.take_length]
          (repeat' (first|(with_reducible first|(refine hK _ _ ?_;clear hK K)|(refine hB ?_;clear hA hB A B)|(refine hK _ ?_;clear hK K))|((with_reducible refine gO ?_);(first|((with_reducible refine z25 ?_);intro K hK;(conv=>whnf))|(with_reducible refine z0 ?_)))|((((with_reducible refine gI ?_);(((with_reducible refine NIf.decN ?s ?_);case s=>omega))))<;>(conv=>whnf))|((with_reducible refine gX ?_);(first|(with_reducible first|refine z3 ?_|refine z4 ?_|refine z7 ?_|refine z8 ?_)|((with_reducible refine z29 ?_);intro A B hA hB;(conv=>whnf))))|(with_reducible first|refine z1 ?_|refine z2 ?_|refine z10 ?_|refine z11 ?_|refine z19 ?_)|((with_reducible refine gR ?_);((refine z31 rfl ?_);intro K hK;(conv=>whnf)))))
          all_goals exact ⟨w, rfl, MemFits.pre 2 rfl⟩
end Go.Proofs.YtpkjnmddembkjaaGreatDoor
namespace Go.Proofs.YtpkjnmddembkjaaGreatDoor
open Go.Sx
set_option maxRecDepth 20000
set_option linter.unusedSimpArgs false
set_option linter.unusedVariables false
set_option maxHeartbeats 4000000
set_option linter.unusedVariables false
/-- What is laid by a call: numbers in a slice. -/
abbrev Srt.Lays (F : Heap) (l : List Int) (r : AV) (m : List Blk) : Prop := ∃ F' v, F.le F' ∧ Srt.Row F' v l ∧ r = .hs v l.length ∧ m = [hpB F']
theorem Values26_c (F : Heap) (p : Pd.T) (u : Value) (f : Int) (hf : -9223372036854775808 ≤ f ∧ f ≤ 9223372036854775807) (hs : Pd.size p ≤ 2932031007402) (hu : Pd.Row F u p.l) :
    NCall Tryz.prog 28 [.agg (Pd.cs p u), .int .i64 f] [hpB F] fun r m => Srt.Lays F (Pd.values f p) r m := by
  have hln := Pd.vals_len f p
  have c1 := values26_c f hf 3 rfl _ F p u [] (.slice none 0 0) (Nat.le_refl _) (by simpa using hs) hu
  have c0 : NCall Tryz.prog 58 [.raw (.slice none 0 0), .agg (Pd.cs p u), .int .i64 f] [hpB F] _ := NCall.rowPre c1 rfl
  rw [List.nil_append] at c0
  clear c1
  have hv := Pd.values_comp f p
  have hsl := Srt.sort_len (Pd.vals f p)
  refine Go.Sx.NCall.know (K := fun r m => ∃ v, r = .raw (Srt.cutTo v (Pd.values f p).length) ∧ MemFits m [hpB F, ⟨addrOf v, Srt.av (Srt.comped (Srt.sort (Pd.vals f p))), .row v 3 1 (Pd.vals f p).length⟩]) ?_ fun r m' ⟨v, hr, hm⟩ ⟨w, hw⟩ => ?_
  · rw [← hv]
    have c2 := fun v => sort_c v 3 (Pd.vals f p) (by omega)
    have c3 := fun v => compact_c v 3 (Srt.sort (Pd.vals f p)) (by omega)
    rw [hsl] at c3
    generalize Srt.comped (Srt.sort (Pd.vals f p)) = D2 at *
    generalize (Srt.comp (Srt.sort (Pd.vals f p))).length = n2 at *
    generalize Srt.av (Srt.sort (Pd.vals f p)) = D1 at *
    generalize Srt.av (Pd.vals f p) = D0 at *
    generalize (Pd.vals f p).length = n0 at *
    have hok := hu.ok
    clear hv hsl
    obtain ⟨k, a, v, l⟩ := p
    simp only [pd_cs, Pd.T.l] at *
    refine ncall_of Tryz.func28 rfl (by decide) ?_
    (repeat' (first|(with_reducible first|(refine hK _ _ ?_;clear hK K)|(refine hK _ ?_;clear hK K))|((with_reducible refine gO ?_);(first|((with_reducible refine z25 ?_);intro K hK;(conv=>whnf))|(with_reducible refine z0 ?_)))|((first|((with_reducible refine gH ?_);((with_reducible refine NH.mk ?s ?_);case s=>(and_intros<;>with_reducible rfl)))|((with_reducible refine gC ?_);(first|((with_reducible refine NCall.isF 58 ?_);refine NCall.subw [0] _ _ (c0) rfl (by decide) rfl ?_; rintro _ _ ⟨w', rfl, rfl⟩; refine ⟨Nat.le_of_ble_eq_true rfl, .sl 2 w' n0, rfl, ?_⟩)|((with_reducible refine NCall.isF 59 ?_);refine NCall.subE [2] (c2 _) rfl (by decide) rfl rfl ?_)|((with_reducible refine NCall.isF 60 ?_);refine NCall.subE [2] (c3 _) rfl (by decide) rfl rfl ?_))))<;>(conv=>whnf))|((with_reducible refine gX ?_);((with_reducible first|refine z3 ?_|refine z4 ?_|refine z8 ?_)))|(with_reducible first|refine z1 ?_|refine z2 ?_)|((with_reducible refine gR ?_);((refine z31 rfl ?_);intro K hK;(conv=>whnf)))|((with_reducible refine gF ?_);((refine z33 rfl ?_);intro K hK;(conv=>whnf)))|((intro _;skip)<;>(conv=>whnf))))
    all_goals exact ⟨_, rfl, MemFits.pick [0, 2] (by decide) rfl⟩
  · have hok := ((hm w hw).1.row (List.mem_cons_of_mem _ (List.mem_cons_self ..))).1
    rw [← hsl, ← Srt.comped_len] at hok
    have hrow := rowF_new (F := F) (sz := 1) (enc := Srt.V) hok (Srt.av_flat _) (fun x _ => rfl)
    obtain ⟨h1, h2⟩ := Srt.row_cut hrow
    rw [hv] at h1 h2
    exact ⟨_, _, by rw [hr]; exact h2.symm, hm.trans (MemFits.freeze (m := [])), _, _, addF.old, h1, rfl, rfl⟩
theorem asks26_c (F : Heap) (f w : Int) (hf : -9223372036854775808 ≤ f ∧ f ≤ 9223372036854775807) : ∀ (n : Nat) (p : Pd.T) (u : Value), Pd.size p ≤ n → Pd.size p ≤ 4611686018427387904 → Pd.Row F u p.l →
    NCall Tryz.prog 78 [.agg (Pd.cs p u), .int .i64 f, .int .i64 w] [hpB F] fun r m => r = .bool (decide (w ∈ Pd.vals f p)) ∧ m = [hpB F]
  | 0, p, u, hn, _, _ => absurd (Pd.size_pos p) (by omega)
  | n + 1, ⟨k, a, v, l⟩, u, hn, hs, hu => by
    refine NCall.fits (K := fun r m => r = .bool (decide (w ∈ Pd.vals f (.mk k a v l))) ∧ MemFits m [hpB F]) ?_ fun r m' h => ⟨r, _, rfl, h.2, h.1, rfl⟩
    have hu : Pd.Row F u l := hu
    have hok := hu.ok
    have e2 : Pd.size (.mk k a v l) = 1 + Pd.sizeL l := by rw [Pd.size]
    have hll := Pd.length_le l
    have ih : ∀ x ∈ l, ∀ A, Pd.Row F A x.l → NCall Tryz.prog 78 [.agg (Pd.cs x A), .int .i64 f, .int .i64 w] [hpB F] fun r m => r = .bool (decide (w ∈ Pd.vals f x)) ∧ m = [hpB F] :=
      fun x hx A hA => asks26_c F f w hf n x A (by have := Pd.size_lt (k := k) (f := a) (v := v) hx; omega) (by have := Pd.size_lt (k := k) (f := a) (v := v) hx; omega) hA
    refine ncall_of Tryz.func78 rfl (by decide) ?_
    rw [pd_cs, Pd.vals]
    by_cases h1 : k = 3 ∧ a = f ∧ v = w
    · obtain ⟨rfl, rfl, rfl⟩ := h1
      (repeat' (first|(with_reducible first|(refine hK _ _ ?_;clear hK K)|(refine hA ?_;clear hA hB A B)|(refine hK _ ?_;clear hK K))|((with_reducible refine gO ?_);(first|((with_reducible first|refine z25 ?_|refine z26 ?_);intro K hK;(conv=>whnf))|(with_reducible refine z0 ?_)))|((first|((with_reducible refine gI ?_);((((with_reducible refine NIf.yes ?s ?_);case s=>(simp ;done)))))|((with_reducible refine gN ?_);(with_reducible refine NN.a5 ?_))|((with_reducible refine gH ?_);((with_reducible refine NH.mk ?s ?_);case s=>(and_intros<;>with_reducible rfl))))<;>(conv=>whnf))|((with_reducible refine gX ?_);(first|(with_reducible first|refine z3 ?_|refine z4 ?_|refine z8 ?_)|((with_reducible refine z29 ?_);intro A B hA hB;(conv=>whnf))))|(with_reducible first|refine z1 ?_|refine z2 ?_|refine z12 ?_)|((with_reducible refine gR ?_);((refine z31 rfl ?_);intro K hK;(conv=>whnf)))|((with_reducible refine gF ?_);((refine z33 rfl ?_);intro K hK;(conv=>whnf)))|((intro _;skip)<;>(conv=>whnf))))
      all_goals exact ⟨by simp, MemFits.pre 1 rfl⟩
    · have e : decide (w ∈ (if k = 3 ∧ a = f then [v] else []) ++ Pd.valsL f l) = decide (w ∈ Pd.valsL f l) := by
        congr 1
        rw [List.mem_append]
        refine propext ⟨fun h => h.resolve_left fun h => ?_, .inr⟩
        split at h
        · rename_i hk
          exact h1 ⟨hk.1, hk.2, (List.mem_singleton.1 h).symm⟩
        · simp at h
      rw [e]
      by_cases hk : k = 3
      · by_cases ha : a = f
        · have hv : v ≠ w := fun e => h1 ⟨hk, ha, e⟩
          subst ha hk
          (repeat' (first|(with_reducible first|(refine hK _ _ ?_;clear hK K)|(refine hB ?_;clear hA hB A B)|(refine hK _ ?_;clear hK K))|((with_reducible refine gO ?_);(first|((with_reducible first|refine z25 ?_|refine z26 ?_);intro K hK;(conv=>whnf))|(with_reducible refine z0 ?_)))|((first|((with_reducible refine gI ?_);(first|(((with_reducible refine NIf.yes ?s ?_);case s=>(simp [hv];done)))|(((with_reducible refine NIf.no ?s ?_);case s=>(simp [hv];done)))))|((with_reducible refine gN ?_);(with_reducible refine NN.a5 ?_))|((with_reducible refine gH ?_);((with_reducible refine NH.mk ?s ?_);case s=>(and_intros<;>with_reducible rfl))))<;>(conv=>whnf))|((with_reducible refine gX ?_);(first|(with_reducible first|refine z3 ?_|refine z4 ?_|refine z5 ?_|refine z6 ?_)|((with_reducible refine z29 ?_);intro A B hA hB;(conv=>whnf))))|(with_reducible first|refine z1 ?_|refine z2 ?_)|((with_reducible refine gF ?_);((refine z33 rfl ?_);intro K hK;(conv=>whnf)))|((intro _;skip)<;>(conv=>whnf))))
          refine st_auto (α := Nat) (fun i => i ≤ l.length ∧ ¬ w ∈ Pd.valsL a (l.take i)) (fun i => [.keep, .keep, .keep, .keep, .keep, .keep, .set (.bool false), .set (.int .i64 i), .keep, .keep, .keep, .keep, .keep, .keep, .keep, .keep, .keep, .keep, .keep, .keep, .keep, .keep, .keep, .drop, .drop, .drop, .drop, .drop, .drop, .drop, .drop, .drop, .drop, .drop, .drop, .drop, .drop, .drop]) (fun _ => []) (fun i => l.length - i) 0 ⟨Nat.zero_le _, by simp [Pd.valsL]⟩ ?_ (MemFits.eq rfl) ?_
          · repeat (first | exact FitsSl.nil | refine FitsSl.any ?_ | refine FitsSl.cons (Fit1.int (by first | rfl | omega)) ?_ | refine FitsSl.cons (Fit1.bool rfl) ?_ | refine FitsSl.cons (Fit1.str rfl) ?_ | refine FitsSl.cons (Fit1.same (by intro h; cases h) (by with_reducible rfl)) ?_ | refine FitsSl.cons Fit1.nil_sl ?_ | refine FitsSl.cons (Fit1.hs rfl) ?_ | refine FitsSl.cons (Fit1.hp rfl rfl) ?_ | refine FitsSl.cons (Fit1.sl rfl) ?_ | refine FitsSl.cons (Fit1.ptr rfl rfl) ?_ | refine FitsSl.cons Fit1.raw ?_)
          (intro i ⟨hi, hno⟩; intro K hK; (conv=>whnf); refine hK _ _ ?_; clear hK K)
          by_cases hlt : i < l.length
          · have hx : l[i]? = some l[i] := List.getElem?_eq_getElem hlt
            obtain ⟨A, cap, hA, c0, c1, c2, c3⟩ := hu.get hx
            have hmem := List.mem_of_getElem? hx
            have c := ih _ hmem _ hA
            have hnx := Pd.valsL_take a hlt
            have hyes : w ∈ Pd.vals a l[i] → w ∈ Pd.valsL a l := fun hw => by
              have e := Pd.valsL_append a (l.take (i + 1)) (l.drop (i + 1))
              rw [List.take_append_drop, hnx] at e
              rw [e]
              exact List.mem_append_left _ (List.mem_append_right _ hw)
            have hnext : ¬ w ∈ Pd.vals a l[i] → ¬ w ∈ Pd.valsL a (l.take (i + 1)) := fun h1 h2 => by
              rw [hnx] at h2
              rcases List.mem_append.1 h2 with h2 | h2
              · exact hno h2
              · exact h1 h2
            clear ih e hnx
            generalize l[i] = x at *
            by_cases hw : w ∈ Pd.vals a x
            · rw [decide_eq_true hw] at c
              have hy := hyes hw
              clear hyes hnext hw
              obtain ⟨xk, xf, xv, xl⟩ := x
              simp only [Pd.cs, Pd.T.k, Pd.T.f, Pd.T.v, Pd.T.l] at c c0 c1 c2 c3 hA
              (repeat' (first|(with_reducible first|(refine hK _ _ ?_;clear hK K)|(refine hA ?_;clear hA hB A B)|(refine hK _ ?_;clear hK K))|((with_reducible refine gO ?_);(first|((with_reducible refine z25 ?_);intro K hK;(conv=>whnf))|(with_reducible refine z0 ?_)))|((first|((with_reducible refine gI ?_);(first|((with_reducible refine NIf.decY ?s ?_);case s=>omega)|((with_reducible refine NIf.yes ?s ?_);case s=>rfl)))|((with_reducible refine gN ?_);(with_reducible first|refine NN.cast ?_|refine NN.a5 ?_|refine NN.keep ?_))|((with_reducible refine gH ?_);((with_reducible refine NH.mk ?s ?_);case s=>(and_intros<;>first|with_reducible rfl|omega)))|((with_reducible refine gC ?_);((with_reducible refine NCall.isF 78 ?_);refine NCall.subE [0] (c) rfl (by decide) rfl rfl ?_))|(with_reducible refine NLd.of (by with_reducible assumption) ?_))<;>(conv=>whnf))|((with_reducible refine gX ?_);(first|(with_reducible first|refine z3 ?_|refine z4 ?_|refine z5 ?_|refine z6 ?_|refine z8 ?_)|((with_reducible refine z29 ?_);intro A B hA hB;(conv=>whnf))))|(with_reducible first|refine z1 ?_|refine z2 ?_|refine z12 ?_|refine z13 ?_|refine z20 ?_)|((with_reducible refine gR ?_);((refine z31 rfl ?_);intro K hK;(conv=>whnf)))))
              all_goals exact ⟨by rw [decide_eq_true hy], MemFits.pre 1 rfl⟩
            · rw [decide_eq_false hw] at c
              have hy := hnext hw
              clear hyes hnext hw
              obtain ⟨xk, xf, xv, xl⟩ := x
              simp only [Pd.cs, Pd.T.k, Pd.T.f, Pd.T.v, Pd.T.l] at c c0 c1 c2 c3 hA
              (repeat' (first|(with_reducible first|(refine hK _ _ ?_;clear hK K)|(refine hA ?_;clear hA hB A B)|(refine hB ?_;clear hA hB A B))|((with_reducible refine gO ?_);(first|((with_reducible refine z25 ?_);intro K hK;(conv=>whnf))|(with_reducible refine z0 ?_)))|((first|((with_reducible refine gV ?_);(((with_reducible refine NV.i64 ?s ?_);case s=>omega)))|((with_reducible refine gI ?_);(first|((with_reducible refine NIf.decY ?s ?_);case s=>omega)|((with_reducible refine NIf.no ?s ?_);case s=>rfl)))|((with_reducible refine gN ?_);(with_reducible first|refine NN.cast ?_|refine NN.a5 ?_|refine NN.keep ?_))|((with_reducible refine gH ?_);((with_reducible refine NH.mk ?s ?_);case s=>(and_intros<;>first|with_reducible rfl|omega)))|((with_reducible refine gC ?_);((with_reducible refine NCall.isF 78 ?_);refine NCall.subE [0] (c) rfl (by decide) rfl rfl ?_))|(with_reducible refine NLd.of (by with_reducible assumption) ?_))<;>(conv=>whnf))|((with_reducible refine gX ?_);(first|(with_reducible first|refine z3 ?_|refine z4 ?_|refine z5 ?_|refine z6 ?_)|((with_reducible refine z29 ?_);intro A B hA hB;(conv=>whnf))))|(with_reducible first|refine z1 ?_|refine z2 ?_|refine z9 ?_)))
              refine st_round (i + 1) ⟨hlt, hy⟩ (by omega) ?_ (MemFits.eq rfl)
              repeat (first | exact FitsSl.nil | refine FitsSl.any ?_ | refine FitsSl.cons (Fit1.int (by first | rfl | omega)) ?_ | refine FitsSl.cons (Fit1.bool rfl) ?_ | refine FitsSl.cons (Fit1.str rfl) ?_ | refine FitsSl.cons (Fit1.same (by intro h; cases h) (by with_reducible rfl)) ?_ | refine FitsSl.cons Fit1.nil_sl ?_ | refine FitsSl.cons (Fit1.hs rfl) ?_ | refine FitsSl.cons (Fit1.hp rfl rfl) ?_ | refine FitsSl.cons (Fit1.sl rfl) ?_ | refine FitsSl.cons (Fit1.ptr rfl rfl) ?_ | refine FitsSl.cons Fit1.raw ?_)
          · have hkl : i = l.length := by omega
            subst hkl
            rw [List.take_length] at hno
            (repeat' (first|(with_reducible first|(refine hK _ _ ?_;clear hK K)|(refine hB ?_;clear hA hB A B)|(refine hK _ ?_;clear hK K))|((with_reducible refine gO ?_);(first|((with_reducible refine z25 ?_);intro K hK;(conv=>whnf))|(with_reducible refine z0 ?_)))|((first|((with_reducible refine gI ?_);(((with_reducible refine NIf.decN ?s ?_);case s=>omega)))|((with_reducible refine gN ?_);(with_reducible refine NN.a5 ?_))|((with_reducible refine gH ?_);((with_reducible refine NH.mk ?s ?_);case s=>(and_intros<;>first|with_reducible rfl|omega))))<;>(conv=>whnf))|((with_reducible refine gX ?_);(first|(with_reducible first|refine z3 ?_|refine z4 ?_|refine z7 ?_|refine z8 ?_)|((with_reducible refine z29 ?_);intro A B hA hB;(conv=>whnf))))|(with_reducible first|refine z1 ?_|refine z2 ?_|refine z10 ?_|refine z11 ?_|refine z19 ?_)|((with_reducible refine gR ?_);((refine z31 rfl ?_);intro K hK;(conv=>whnf)))))
            all_goals exact ⟨by rw [decide_eq_false hno], MemFits.pre 1 rfl⟩
        · (repeat' (first|(with_reducible first|(refine hK _ _ ?_;clear hK K)|(refine hB ?_;clear hA hB A B)|(refine hK _ ?_;clear hK K))|((with_reducible refine gO ?_);(first|((with_reducible first|refine z25 ?_|refine z26 ?_);intro K hK;(conv=>whnf))|(with_reducible refine z0 ?_)))|((first|((with_reducible refine gI ?_);(first|((with_reducible refine NIf.decY ?s ?_);case s=>assumption)|((with_reducible refine NIf.decN ?s ?_);case s=>assumption)|((with_reducible refine NIf.no ?s ?_);case s=>rfl)))|((with_reducible refine gN ?_);(with_reducible refine NN.a5 ?_))|((with_reducible refine gH ?_);((with_reducible refine NH.mk ?s ?_);case s=>(and_intros<;>with_reducible rfl))))<;>(conv=>whnf))|((with_reducible refine gX ?_);(first|(with_reducible first|refine z3 ?_|refine z4 ?_|refine z5 ?_|refine z6 ?_)|((with_reducible refine z29 ?_);intro A B hA hB;(conv=>whnf))))|(with_reducible first|refine z1 ?_|refine z2 ?_)|((with_reducible refine gF ?_);((refine z33 rfl ?_);intro K hK;(conv=>whnf)))|((intro _;skip)<;>(conv=>whnf))))
          refine st_auto (α := Nat) (fun i => i ≤ l.length ∧ ¬ w ∈ Pd.valsL f (l.take i)) (fun i => [.keep, .keep, .keep, .keep, .keep, .keep, .set (.bool false), .set (.int .i64 i), .keep, .keep, .keep, .keep, .keep, .keep, .keep, .keep, .keep, .keep, .keep, .keep, .keep, .keep, .keep, .drop, .drop, .drop, .drop, .drop, .drop, .drop, .drop, .drop, .drop, .drop, .drop, .drop, .drop, .drop]) (fun _ => []) (fun i => l.length - i) 0 ⟨Nat.zero_le _, by simp [Pd.valsL]⟩ ?_ (MemFits.eq rfl) ?_
          · repeat (first | exact FitsSl.nil | refine FitsSl.any ?_ | refine FitsSl.cons (Fit1.int (by first | rfl | omega)) ?_ | refine FitsSl.cons (Fit1.bool rfl) ?_ | refine FitsSl.cons (Fit1.str rfl) ?_ | refine FitsSl.cons (Fit1.same (by intro h; cases h) (by with_reducible rfl)) ?_ | refine FitsSl.cons Fit1.nil_sl ?_ | refine FitsSl.cons (Fit1.hs rfl) ?_ | refine FitsSl.cons (Fit1.hp rfl rfl) ?_ | refine FitsSl.cons (Fit1.sl rfl) ?_ | refine FitsSl.cons (Fit1.ptr rfl rfl) ?_ | refine FitsSl.cons Fit1.raw ?_)
          (intro i ⟨hi, hno⟩; intro K hK; (conv=>whnf); refine hK _ _ ?_; clear hK K)
          by_cases hlt : i < l.length
          · have hx : l[i]? = some l[i] := List.getElem?_eq_getElem hlt
            obtain ⟨A, cap, hA, c0, c1, c2, c3⟩ := hu.get hx
            have hmem := List.mem_of_getElem? hx
            have c := ih _ hmem _ hA
            have hnx := Pd.valsL_take f hlt
            have hyes : w ∈ Pd.vals f l[i] → w ∈ Pd.valsL f l := fun hw => by
              have e := Pd.valsL_append f (l.take (i + 1)) (l.drop (i + 1))
              rw [List.take_append_drop, hnx] at e
              rw [e]
              exact List.mem_append_left _ (List.mem_append_right _ hw)
            have hnext : ¬ w ∈ Pd.vals f l[i] → ¬ w ∈ Pd.valsL f (l.take (i + 1)) := fun h1 h2 => by
              rw [hnx] at h2
              rcases List.mem_append.1 h2 with h2 | h2
              · exact hno h2
              · exact h1 h2
            clear ih e hnx
            generalize l[i] = x at *
            by_cases hw : w ∈ Pd.vals f x
            · rw [decide_eq_true hw] at c
              have hy := hyes hw
              clear hyes hnext hw
              obtain ⟨xk, xf, xv, xl⟩ := x
              simp only [Pd.cs, Pd.T.k, Pd.T.f, Pd.T.v, Pd.T.l] at c c0 c1 c2 c3 hA
              (repeat' (first|(with_reducible first|(refine hK _ _ ?_;clear hK K)|(refine hA ?_;clear hA hB A B)|(refine hK _ ?_;clear hK K))|((with_reducible refine gO ?_);(first|((with_reducible refine z25 ?_);intro K hK;(conv=>whnf))|(with_reducible refine z0 ?_)))|((first|((with_reducible refine gI ?_);(first|((with_reducible refine NIf.decY ?s ?_);case s=>omega)|((with_reducible refine NIf.yes ?s ?_);case s=>rfl)))|((with_reducible refine gN ?_);(with_reducible first|refine NN.cast ?_|refine NN.a5 ?_|refine NN.keep ?_))|((with_reducible refine gH ?_);((with_reducible refine NH.mk ?s ?_);case s=>(and_intros<;>first|with_reducible rfl|omega)))|((with_reducible refine gC ?_);((with_reducible refine NCall.isF 78 ?_);refine NCall.subE [0] (c) rfl (by decide) rfl rfl ?_))|(with_reducible refine NLd.of (by with_reducible assumption) ?_))<;>(conv=>whnf))|((with_reducible refine gX ?_);(first|(with_reducible first|refine z3 ?_|refine z4 ?_|refine z5 ?_|refine z6 ?_|refine z8 ?_)|((with_reducible refine z29 ?_);intro A B hA hB;(conv=>whnf))))|(with_reducible first|refine z1 ?_|refine z2 ?_|refine z12 ?_|refine z13 ?_|refine z20 ?_)|((with_reducible refine gR ?_);((refine z31 rfl ?_);intro K hK;(conv=>whnf)))))
              all_goals exact ⟨by rw [decide_eq_true hy], MemFits.pre 1 rfl⟩
            · rw [decide_eq_false hw] at c
              have hy := hnext hw
              clear hyes hnext hw
              obtain ⟨xk, xf, xv, xl⟩ := x
              simp only [Pd.cs, Pd.T.k, Pd.T.f, Pd.T.v, Pd.T.l] at c c0 c1 c2 c3 hA
              (repeat' (first|(with_reducible first|(refine hK _ _ ?_;clear hK K)|(refine hA ?_;clear hA hB A B)|(refine hB ?_;clear hA hB A B))|((with_reducible refine gO ?_);(first|((with_reducible refine z25 ?_);intro K hK;(conv=>whnf))|(with_reducible refine z0 ?_)))|((first|((with_reducible refine gV ?_);(((with_reducible refine NV.i64 ?s ?_);case s=>omega)))|((with_reducible refine gI ?_);(first|((with_reducible refine NIf.decY ?s ?_);case s=>omega)|((with_reducible refine NIf.no ?s ?_);case s=>rfl)))|((with_reducible refine gN ?_);(with_reducible first|refine NN.cast ?_|refine NN.a5 ?_|refine NN.keep ?_))|((with_reducible refine gH ?_);((with_reducible refine NH.mk ?s ?_);case s=>(and_intros<;>first|with_reducible rfl|omega)))|((with_reducible refine gC ?_);((with_reducible refine NCall.isF 78 ?_);refine NCall.subE [0] (c) rfl (by decide) rfl rfl ?_))|(with_reducible refine NLd.of (by with_reducible assumption) ?_))<;>(conv=>whnf))|((with_reducible refine gX ?_);(first|(with_reducible first|refine z3 ?_|refine z4 ?_|refine z5 ?_|refine z6 ?_)|((with_reducible refine z29 ?_);intro A B hA hB;(conv=>whnf))))|(with_reducible first|refine z1 ?_|refine z2 ?_|refine z9 ?_)))
              refine st_round (i + 1) ⟨hlt, hy⟩ (by omega) ?_ (MemFits.eq rfl)
              repeat (first | exact FitsSl.nil | refine FitsSl.any ?_ | refine FitsSl.cons (Fit1.int (by first | rfl | omega)) ?_ | refine FitsSl.cons (Fit1.bool rfl) ?_ | refine FitsSl.cons (Fit1.str rfl) ?_ | refine FitsSl.cons (Fit1.same (by intro h; cases h) (by with_reducible rfl)) ?_ | refine FitsSl.cons Fit1.nil_sl ?_ | refine FitsSl.cons (Fit1.hs rfl) ?_ | refine FitsSl.cons (Fit1.hp rfl rfl) ?_ | refine FitsSl.cons (Fit1.sl rfl) ?_ | refine FitsSl.cons (Fit1.ptr rfl rfl) ?_ | refine FitsSl.cons Fit1.raw ?_)
          · have hkl : i = l.length := by omega
            subst hkl
            rw [List.take_length] at hno
            (repeat' (first|(with_reducible first|(refine hK _ _ ?_;clear hK K)|(refine hB ?_;clear hA hB A B)|(refine hK _ ?_;clear hK K))|((with_reducible refine gO ?_);(first|((with_reducible refine z25 ?_);intro K hK;(conv=>whnf))|(with_reducible refine z0 ?_)))|((first|((with_reducible refine gI ?_);(((with_reducible refine NIf.decN ?s ?_);case s=>omega)))|((with_reducible refine gN ?_);(with_reducible refine NN.a5 ?_))|((with_reducible refine gH ?_);((with_reducible refine NH.mk ?s ?_);case s=>(and_intros<;>first|with_reducible rfl|omega))))<;>(conv=>whnf))|((with_reducible refine gX ?_);(first|(with_reducible first|refine z3 ?_|refine z4 ?_|refine z7 ?_|refine z8 ?_)|((with_reducible refine z29 ?_);intro A B hA hB;(conv=>whnf))))|(with_reducible first|refine z1 ?_|refine z2 ?_|refine z10 ?_|refine z11 ?_|refine z19 ?_)|((with_reducible refine gR ?_);((refine z31 rfl ?_);intro K hK;(conv=>whnf)))))
            all_goals exact ⟨by rw [decide_eq_false hno], MemFits.pre 1 rfl⟩
      · (repeat' (first|(with_reducible first|(refine hK _ _ ?_;clear hK K)|(refine hB ?_;clear hA hB A B)|(refine hK _ ?_;clear hK K))|((with_reducible refine gO ?_);(first|((with_reducible first|refine z25 ?_|refine z26 ?_);intro K hK;(conv=>whnf))|(with_reducible refine z0 ?_)))|((first|((with_reducible refine gI ?_);(first|((with_reducible refine NIf.decN ?s ?_);case s=>assumption)|((with_reducible refine NIf.no ?s ?_);case s=>rfl)))|((with_reducible refine gN ?_);(with_reducible refine NN.a5 ?_))|((with_reducible refine gH ?_);((with_reducible refine NH.mk ?s ?_);case s=>(and_intros<;>with_reducible rfl))))<;>(conv=>whnf))|((with_reducible refine gX ?_);(first|(with_reducible first|refine z3 ?_|refine z4 ?_|refine z5 ?_|refine z6 ?_)|((with_reducible refine z29 ?_);intro A B hA hB;(conv=>whnf))))|(with_reducible first|refine z1 ?_|refine z2 ?_)|((with_reducible refine gF ?_);((refine z33 rfl ?_);intro K hK;(conv=>whnf)))|((intro _;skip)<;>(conv=>whnf))))
        refine st_auto (α := Nat) (fun i => i ≤ l.length ∧ ¬ w ∈ Pd.valsL f (l.take i)) (fun i => [.keep, .keep, .keep, .keep, .keep, .keep, .set (.bool false), .set (.int .i64 i), .keep, .keep, .keep, .keep, .keep, .keep, .keep, .keep, .keep, .keep, .keep, .keep, .keep, .keep, .keep, .drop, .drop, .drop, .drop, .drop, .drop, .drop, .drop, .drop, .drop, .drop, .drop, .drop, .drop, .drop]) (fun _ => []) (fun i => l.length - i) 0 ⟨Nat.zero_le _, by simp [Pd.valsL]⟩ ?_ (MemFits.eq rfl) ?_
        · repeat (first | exact FitsSl.nil | refine FitsSl.any ?_ | refine FitsSl.cons (Fit1.int (by first | rfl | omega)) ?_ | refine FitsSl.cons (Fit1.bool rfl) ?_ | refine FitsSl.cons (Fit1.str rfl) ?_ | refine FitsSl.cons (Fit1.same (by intro h; cases h) (by with_reducible rfl)) ?_ | refine FitsSl.cons Fit1.nil_sl ?_ | refine FitsSl.cons (Fit1.hs rfl) ?_ | refine FitsSl.cons (Fit1.hp rfl rfl) ?_ | refine FitsSl.cons (Fit1.sl rfl) ?_ | refine FitsSl.cons (Fit1.ptr rfl rfl) ?_ | refine FitsSl.cons Fit1.raw ?_)
        (intro i ⟨hi, hno⟩; intro K hK; (conv=>whnf); refine hK _ _ ?_; clear hK K)
        by_cases hlt : i < l.length
        · have hx : l[i]? = some l[i] := List.getElem?_eq_getElem hlt
          obtain ⟨A, cap, hA, c0, c1, c2, c3⟩ := hu.get hx
          have hmem := List.mem_of_getElem? hx
          have c := ih _ hmem _ hA
          have hnx := Pd.valsL_take f hlt
          have hyes : w ∈ Pd.vals f l[i] → w ∈ Pd.valsL f l := fun hw => by
            have e := Pd.valsL_append f (l.take (i + 1)) (l.drop (i + 1))
            rw [List.take_append_drop, hnx] at e
            rw [e]
            exact List.mem_append_left _ (List.mem_append_right _ hw)
          have hnext : ¬ w ∈ Pd.vals f l[i] → ¬ w ∈ Pd.valsL f (l.take (i + 1)) := fun h1 h2 => by
            rw [hnx] at h2
            rcases List.mem_append.1 h2 with h2 | h2
            · exact hno h2
            · exact h1 h2
          clear ih e hnx
          generalize l[i] = x at *
          by_cases hw : w ∈ Pd.vals f x
          · rw [decide_eq_true hw] at c
            have hy := hyes hw
            clear hyes hnext hw
            obtain ⟨xk, xf, xv, xl⟩ := x
            simp only [Pd.cs, Pd.T.k, Pd.T.f, Pd.T.v, Pd.T.l] at c c0 c1 c2 c3 hA
            (repeat' (first|(with_reducible first|(refine hK _ _ ?_;clear hK K)|(refine hA ?_;clear hA hB A B)|(refine hK _ ?_;clear hK K))|((with_reducible refine gO ?_);(first|((with_reducible refine z25 ?_);intro K hK;(conv=>whnf))|(with_reducible refine z0 ?_)))|((first|((with_reducible refine gI ?_);(first|((with_reducible refine NIf.decY ?s ?_);case s=>omega)|((with_reducible refine NIf.yes ?s ?_);case s=>rfl)))|((with_reducible refine gN ?_);(with_reducible first|refine NN.cast ?_|refine NN.a5 ?_|refine NN.keep ?_))|((with_reducible refine gH ?_);((with_reducible refine NH.mk ?s ?_);case s=>(and_intros<;>first|with_reducible rfl|omega)))|((with_reducible refine gC ?_);((with_reducible refine NCall.isF 78 ?_);refine NCall.subE [0] (c) rfl (by decide) rfl rfl ?_))|(with_reducible refine NLd.of (by with_reducible assumption) ?_))<;>(conv=>whnf))|((with_reducible refine gX ?_);(first|(with_reducible first|refine z3 ?_|refine z4 ?_|refine z5 ?_|refine z6 ?_|refine z8 ?_)|((with_reducible refine z29 ?_);intro A B hA hB;(conv=>whnf))))|(with_reducible first|refine z1 ?_|refine z2 ?_|refine z12 ?_|refine z13 ?_|refine z20 ?_)|((with_reducible refine gR ?_);((refine z31 rfl ?_);intro K hK;(conv=>whnf)))))
            all_goals exact ⟨by rw [decide_eq_true hy], MemFits.pre 1 rfl⟩
          · rw [decide_eq_false hw] at c
            have hy := hnext hw
            clear hyes hnext hw
            obtain ⟨xk, xf, xv, xl⟩ := x
            simp only [Pd.cs, Pd.T.k, Pd.T.f, Pd.T.v, Pd.T.l] at c c0 c1 c2 c3 hA
            (repeat' (first|(with_reducible first|(refine hK _ _ ?_;clear hK K)|(refine hA ?_;clear hA hB A B)|(refine hB ?_;clear hA hB A B))|((with_reducible refine gO ?_);(first|((with_reducible refine z25 ?_);intro K hK;(conv=>whnf))|(with_reducible refine z0 ?_)))|((first|((with_reducible refine gV ?_);(((with_reducible refine NV.i64 ?s ?_);case s=>omega)))|((with_reducible refine gI ?_);(first|((with_reducible refine NIf.decY ?s ?_);case s=>omega)|((with_reducible refine NIf.no ?s ?_);case s=>rfl)))|((with_reducible refine gN ?_);(with_reducible first|refine NN.cast ?_|refine NN.a5 ?_|refine NN.keep ?_))|((with_reducible refine gH ?_);((with_reducible refine NH.mk ?s ?_);case s=>(and_intros<;>first|with_reducible rfl|omega)))|((with_reducible refine gC ?_);((with_reducible refine NCall.isF 78 ?_);refine NCall.subE [0] (c) rfl (by decide) rfl rfl ?_))|(with_reducible refine NLd.of (by with_reducible assumption) ?_))<;>(conv=>whnf))|((with_reducible refine gX ?_);(first|(with_reducible first|refine z3 ?_|refine z4 ?_|refine z5 ?_|refine z6 ?_)|((with_reducible refine z29 ?_);intro A B hA hB;(conv=>whnf))))|(with_reducible first|refine z1 ?_|refine z2 ?_|refine z9 ?_)))
            refine st_round (i + 1) ⟨hlt, hy⟩ (by omega) ?_ (MemFits.eq rfl)
            repeat (first | exact FitsSl.nil | refine FitsSl.any ?_ | refine FitsSl.cons (Fit1.int (by first | rfl | omega)) ?_ | refine FitsSl.cons (Fit1.bool rfl) ?_ | refine FitsSl.cons (Fit1.str rfl) ?_ | refine FitsSl.cons (Fit1.same (by intro h; cases h) (by with_reducible rfl)) ?_ | refine FitsSl.cons Fit1.nil_sl ?_ | refine FitsSl.cons (Fit1.hs rfl) ?_ | refine FitsSl.cons (Fit1.hp rfl rfl) ?_ | refine FitsSl.cons (Fit1.sl rfl) ?_ | refine FitsSl.cons (Fit1.ptr rfl rfl) ?_ | refine FitsSl.cons Fit1.raw ?_)
        · have hkl : i = l.length := by omega
          subst hkl
          rw [List.take_length] at hno
          (repeat' (first|(with_reducible first|(refine hK _ _ ?_;clear hK K)|(refine hB ?_;clear hA hB A B)|(refine hK _ ?_;clear hK K))|((with_reducible refine gO ?_);(first|((with_reducible refine z25 ?_);intro K hK;(conv=>whnf))|(with_reducible refine z0 ?_)))|((first|((with_reducible refine gI ?_);(((with_reducible refine NIf.decN ?s ?_);case s=>omega)))|((with_reducible refine gN ?_);(with_reducible refine NN.a5 ?_))|((with_reducible refine gH ?_);((with_reducible refine NH.mk ?s ?_);case s=>(and_intros<;>first|with_reducible rfl|omega))))<;>(conv=>whnf))|((with_reducible refine gX ?_);(first|(with_reducible first|refine z3 ?_|refine z4 ?_|refine z7 ?_|refine z8 ?_)|((with_reducible refine z29 ?_);intro A B hA hB;(conv=>whnf))))|(with_reducible first|refine z1 ?_|refine z2 ?_|refine z10 ?_|refine z11 ?_|refine z19 ?_)|((with_reducible refine gR ?_);((refine z31 rfl ?_);intro K hK;(conv=>whnf)))))
          all_goals exact ⟨by rw [decide_eq_false hno], MemFits.pre 1 rfl⟩
/-- Numbers that were made in a row of one's own lie among what is read alone. -/
theorem Srt.know {f : FuncId} {args : List AV} {F : Heap} {t : TypeId} {m : List Blk} {l : List Int} (h : NCall Tryz.prog f args m fun r m' => ∃ v, r.den = slOf v ∧ MemFits m' [hpB F, ⟨addrOf v, Srt.av l, .row v t 1 l.length⟩]) :
    NCall Tryz.prog f args m fun r m' => Srt.Lays F l r m' := by
  refine Go.Sx.NCall.know h fun r m' ⟨v, hr, hm⟩ ⟨w, hw⟩ => ?_
  have hok := ((hm w hw).1.row (List.mem_cons_of_mem _ (List.mem_cons_self ..))).1
  have hrow := rowF_new (F := F) (sz := 1) (enc := Srt.V) hok (Srt.av_flat _) (fun x _ => rfl)
  exact ⟨.hs v l.length, _, hr.symm, hm.trans (MemFits.freeze (m := [])), _, v, addF.old, hrow, rfl, rfl⟩
end Go.Proofs.YtpkjnmddembkjaaGreatDoor
