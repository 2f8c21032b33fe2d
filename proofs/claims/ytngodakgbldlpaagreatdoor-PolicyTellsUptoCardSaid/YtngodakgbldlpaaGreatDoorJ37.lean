import Derived.Test.YtngodakgbldlpaaGreatDoorJ12
import Derived.Test.YtngodakgbldlpaaGreatDoorJ3
import Derived.Test.YtngodakgbldlpaaGreatDoorJ29
import Derived.Test.YtngodakgbldlpaaGreatDoorJ6
import Derived.Test.YtngodakgbldlpaaGreatDoorJ25
import Derived.Test.YtngodakgbldlpaaGreatDoorJ28
import Derived.Test.YtngodakgbldlpaaGreatDoorJ30
import Derived.Test.YtngodakgbldlpaaGreatDoorJ32
import Derived.Test.YtngodakgbldlpaaGreatDoorJ36
namespace Go.Proofs.YtngodakgbldlpaaGreatDoor
open Go.Sx
set_option maxRecDepth 20000
set_option linter.unusedSimpArgs false
set_option linter.unusedVariables false
set_option maxHeartbeats 4000000
set_option linter.unusedVariables false
theorem Srt.reads {F : Heap} {v : Value} {l : List Int} (h : Srt.Row F v l) : (Srt.av l).length = l.length * 1 ∧ CellsF F (addrOf v) 0 (denL (Srt.av l)) := by
  rw [Srt.av_flat]
  exact ⟨by rw [Srt.av_len]; omega, h.all.1⟩
theorem Srt.ones (l : List Int) : Go.Sx.ones (Srt.av l) = true := by
  induction l with
  | nil => rfl
  | cons x l ih => simpa [Srt.av, Go.Sx.ones] using ih
theorem Po.values_comp (f : Int) (x : Po.T) : Srt.comp (Srt.sort (Po.vals f x)) = Po.values f x := Pd.comp_once _
theorem values27_c (f : Int) (hf : -9223372036854775808 ≤ f ∧ f ≤ 9223372036854775807) : ∀ (n : Nat) (F : Heap) (x : Po.T) (pu u : Value) (out : List Int) (w : Value), Po.tot x ≤ n → out.length + Po.tot x ≤ 2932031007402 → Po.At F x pu u →
    NCall Tryz.prog 48 [.sl 1 w out.length, .agg (Po.cs x pu u), .int .i64 f] [hpB F, ⟨addrOf w, Srt.av out, .row w 3 1 out.length⟩]
      fun r m => ∃ F' w', F.le F' ∧ r = .sl 1 w' (out ++ Po.vals f x).length ∧ m = [hpB F', ⟨addrOf w', Srt.av (out ++ Po.vals f x), .row w' 3 1 (out ++ Po.vals f x).length⟩]
  | 0, F, x, pu, u, out, w, hn, _, _ => absurd (Po.tot_pos x) (by omega)
  | n + 1, F, ⟨k, p, a, v, l⟩, pu, u, out, w, hn, hs, hx => by
    refine NCall.fits (K := fun r m => ∃ F' w', F.le F' ∧ r = .sl 1 w' (out ++ Po.vals f (.mk k p a v l)).length ∧ MemFits m [hpB F', ⟨addrOf w', Srt.av (out ++ Po.vals f (.mk k p a v l)), .row w' 3 1 (out ++ Po.vals f (.mk k p a v l)).length⟩]) ?_ fun r m' ⟨F', w', h0, h1, h2⟩ => ⟨r, _, rfl, h2, F', w', h0, h1, rfl⟩
    have hu : Po.Row F u l := hx.l
    have hpu : Pd.Row F pu p.l := hx.p
    have hok := hu.ok
    have hpok := hpu.ok
    have e2 := Po.tot_mk k p a v l
    have hll := Po.length_le l
    have ih : ∀ G, ∀ x ∈ l, ∀ pA A, Po.At G x pA A → ∀ (o : List Int) (w : Value), o.length + Po.tot x ≤ 2932031007402 → NCall Tryz.prog 48 [.sl 1 w o.length, .agg (Po.cs x pA A), .int .i64 f] [hpB G, ⟨addrOf w, Srt.av o, .row w 3 1 o.length⟩]
        fun r m => ∃ F' w', G.le F' ∧ r = .sl 1 w' (o ++ Po.vals f x).length ∧ m = [hpB F', ⟨addrOf w', Srt.av (o ++ Po.vals f x), .row w' 3 1 (o ++ Po.vals f x).length⟩] :=
      fun G x hx pA A hA o w ho => values27_c f hf n G x pA A o w (by have := Po.tot_lt (k := k) (q := p) (f := a) (v := v) hx; omega) ho hA
    have cv := Values26_c F p pu f hf (by omega) hpu
    have hpl := Po.pvalues_len f p
    have hol : out.length ≤ out.length := Nat.le_refl _
    have hav := Srt.av_len out
    have hfin : ∀ o1, out ++ (if k = 2 ∧ a = f then [v] else []) ++ Pd.values f p = o1 → out ++ Po.vals f (.mk k p a v l) = o1 ++ Po.valsL f l := fun o1 e => by rw [Po.vals, ← e]; simp [List.append_assoc]
    have hvl : ∀ i, (Po.valsL f (l.take i)).length ≤ Po.totL (l.take i) := fun i => Po.valsL_len f _
    generalize hL : Pd.values f p = L at *
    clear hL hx
    rw [po_cs]
    obtain ⟨pk, pf, pv, pl⟩ := p
    simp only [pd_cs, Pd.T.k, Pd.T.f, Pd.T.v, Pd.T.l] at *
    refine ncall_of Tryz.func48 rfl (by decide) ?_
    by_cases hk : k = 2
    · subst hk
      by_cases ha : a = f
      · subst ha
        have hLo := fun (F1 : Heap) (v1 : Value) (h : Srt.Row F1 v1 L) => h.ok
        have hfin := hfin (out ++ [v] ++ L) (by simp)
        rw [hfin]
        have hol1 : (out ++ [v] ++ L).length = out.length + (0 + 1) + L.length := by
          simp only [List.length_append, List.length_cons, List.length_nil]
        have hav1 : Srt.av (out ++ [v] ++ L) = Srt.av out ++ Srt.av [v] ++ Srt.av L := by simp only [Srt.av_append]
        clear hfin hn
        generalize ho1 : out ++ [v] ++ L = o1 at *
        generalize Srt.av out = ao at *
        (repeat' (first|(with_reducible first|(refine hK _ _ ?_;clear hK K)|(refine hA ?_;clear hA hB A B)|(refine hK _ ?_;clear hK K))|((with_reducible refine gO ?_);(first|((with_reducible first|refine z25 ?_|refine z26 ?_);intro K hK;(conv=>whnf))|(with_reducible refine z0 ?_)))|((first|(with_reducible refine gI ?_;refine NIf.decY ?s ?_;case s=>rfl)|(with_reducible refine gN ?_;refine NN.a5 ?_)|((with_reducible refine gH ?_);((((with_reducible refine NH.mk ?side ?_); case side => (and_intros <;> first | with_reducible rfl | omega | ((first | exact hrow.ok | exact Srt.ones _ | rfl)))))))|((with_reducible refine gC ?_;refine NCall.isF 77 ?_);refine NCall.subw [0] _ _ (cv) rfl (by decide) rfl ?_; rintro _ _ ⟨F1, v1, hle1, hrow, rfl, rfl⟩; refine ⟨Nat.le_of_ble_eq_true rfl, _, rfl, ?_⟩))<;>(conv=>whnf))|(refine NRd.of (Srt.av L) (Srt.reads hrow).1 (Srt.reads hrow).2 ?_; conv=>whnf)|((with_reducible refine gX ?_);(first|(with_reducible first|refine z3 ?_|refine z4 ?_|refine z5 ?_)|((with_reducible refine z29 ?_);intro A B hA hB;(conv=>whnf))))|(with_reducible first|refine z1 ?_|refine z2 ?_)|((with_reducible refine gF ?_);((refine z33 rfl ?_);intro K hK;(conv=>whnf)))|((intro _;skip)<;>(conv=>whnf))))
        rename_i w2
        have e0 : o1 ++ Po.valsL a (l.take 0) = o1 := by simp [Po.valsL]
        refine st_auto (α := Heap × Value × Nat) (fun (G, w, i) => F.le G ∧ i ≤ l.length) (fun (G, w, i) => [.set (.sl 1 w (o1 ++ Po.valsL a (l.take i)).length), .keep, .keep, .keep, .keep, .keep, .keep, .keep, .drop, .keep, .keep, .keep, .keep, .keep, .keep, .keep, .keep, .keep, .keep, .keep, .keep, .keep, .keep, .keep, .keep, .keep, .keep, .keep, .keep, .keep, .keep, .keep, .set (.int .i64 i), .drop, .drop, .drop, .drop, .drop, .drop, .drop, .drop, .keep]) (fun (G, w, i) => [.set (hpB G), .set ⟨addrOf w, Srt.av (o1 ++ Po.valsL a (l.take i)), .row w 3 1 (o1 ++ Po.valsL a (l.take i)).length⟩]) (fun (G, w, i) => l.length - i) (F1, w2, 0) ⟨hle1, Nat.zero_le _⟩ ?_ ?_ ?_
        · dsimp only
          rw [e0, hol1]
          repeat (first|exact FitsSl.nil|refine FitsSl.any ?_|refine FitsSl.cons (Fit1.int (by first | rfl | omega)) ?_|refine FitsSl.cons (Fit1.bool rfl) ?_|refine FitsSl.cons (Fit1.same (by intro h; cases h) (by with_reducible rfl)) ?_)
        · dsimp only
          rw [e0]
          exact MemFits.congr (by simp only [autoM, hav1, hol1, List.append_nil]; try rfl)
        (intro ⟨G, w, i⟩ ⟨hle, hi⟩; intro K hK; (conv=>whnf); refine hK _ _ ?_; clear hK K)
        dsimp only
        by_cases hlt : i < l.length
        · have hx : l[i]? = some l[i] := List.getElem?_eq_getElem hlt
          obtain ⟨pA, pcap, A, cap, hA, c0, c1, c2, c3, c4, c5, c6, c7⟩ := (Po.Row.mono hle hu).get hx
          have hAo := hA.l.ok
          have hAp := hA.p.ok
          have hmem := List.mem_of_getElem? hx
          have hst := Po.totL_take hlt
          have hle2 := Po.totL_le (l := l) (k := i + 1)
          have hvi := hvl i
          have hO : o1 ++ Po.valsL a (l.take (i + 1)) = o1 ++ Po.valsL a (l.take i) ++ Po.vals a l[i] := by rw [Po.valsL_take _ hlt, List.append_assoc]
          have hlo : (o1 ++ Po.valsL a (l.take i)).length = o1.length + (Po.valsL a (l.take i)).length := List.length_append
          have c := ih G _ hmem _ _ hA (o1 ++ Po.valsL a (l.take i)) w (by omega)
          rw [← hO] at c
          clear ih hvl hO
          generalize l[i] = y at *
          obtain ⟨yk, ⟨ypk, ypf, ypv, ypl⟩, yf, yv, yl⟩ := y
          simp only [Po.cs, Po.T.k, Po.T.p, Po.T.f, Po.T.v, Po.T.l, Pd.T.k, Pd.T.f, Pd.T.v, Pd.T.l] at c c0 c1 c2 c3 c4 c5 c6 c7 hAo hAp
          generalize o1 ++ Po.valsL a (l.take i) = O at *
          generalize hO2 : o1 ++ Po.valsL a (l.take (i + 1)) = O2 at *
          (repeat' (first|(with_reducible first|(refine hK _ _ ?_;clear hK K)|(refine hA ?_;clear hA hB A B))|((with_reducible refine gO ?_);(first|((with_reducible refine z25 ?_);intro K hK;(conv=>whnf))|(with_reducible refine z0 ?_)))|((first|((with_reducible refine gV ?_);(((with_reducible refine NV.i64 ?s ?_);case s=>omega)))|((with_reducible refine gI ?_);(((with_reducible refine NIf.decY ?s ?_);case s=>omega)))|(with_reducible refine gN ?_;first|refine NN.cast ?_|refine NN.keep ?_)|((with_reducible refine gH ?_;refine NH.mk ?s ?_);case s=>(and_intros<;>first|with_reducible rfl|((with_reducible refine gOnes ?_);rfl)|((with_reducible refine gLen ?_);rfl)|omega))|((with_reducible refine gC ?_;refine NCall.isF 48 ?_);refine NCall.subw [0, 1] _ _ (c) rfl (by decide) rfl ?_; rintro _ _ ⟨G', w', hle3, rfl, rfl⟩; refine ⟨Nat.le_of_ble_eq_true rfl, _, rfl, ?_⟩)|(with_reducible refine NLd.of (by with_reducible assumption) ?_))<;>(conv=>whnf))|((with_reducible refine gX ?_);(first|(with_reducible first|refine z3 ?_|refine z4 ?_|refine z5 ?_|refine z6 ?_)|((with_reducible refine z29 ?_);intro A B hA hB;(conv=>whnf))))|(with_reducible first|refine z1 ?_|refine z2 ?_|refine z9 ?_)|((intro _;skip)<;>(conv=>whnf))))
          refine st_round (G', w', i + 1) ⟨hle.trans hle3, hlt⟩ (by show l.length - (i + 1) < l.length - i; omega) ?_ (MemFits.pre 4 ?_)
          · dsimp only
            rw [hO2]
            repeat (first|exact FitsSl.nil|refine FitsSl.any ?_|refine FitsSl.cons (Fit1.int (by first | rfl | omega)) ?_|refine FitsSl.cons (Fit1.bool rfl) ?_|refine FitsSl.cons (Fit1.same (by intro h; cases h) (by with_reducible rfl)) ?_)
          · simp only [autoM, List.take, hO2]
            try rfl
        · have hkl : i = l.length := by omega
          subst hkl
          rw [List.take_length]
          clear ih
          (repeat' (first|(with_reducible first|(refine hK _ _ ?_;clear hK K)|(refine hB ?_;clear hA hB A B)|(refine hK _ ?_;clear hK K))|((with_reducible refine gO ?_);(first|((with_reducible refine z25 ?_);intro K hK;(conv=>whnf))|(with_reducible refine z0 ?_)))|((((with_reducible refine gI ?_);(((with_reducible refine NIf.decN ?s ?_);case s=>omega))))<;>(conv=>whnf))|((with_reducible refine gX ?_);(first|(with_reducible first|refine z3 ?_|refine z4 ?_|refine z7 ?_|refine z8 ?_)|((with_reducible refine z29 ?_);intro A B hA hB;(conv=>whnf))))|(with_reducible first|refine z1 ?_|refine z2 ?_|refine z10 ?_|refine z11 ?_|refine z19 ?_)|((with_reducible refine gR ?_);((refine z31 rfl ?_);intro K hK;(conv=>whnf)))))
          all_goals exact ⟨G, w, hle, rfl, MemFits.pre 2 rfl⟩
      · rw [if_neg (fun h => ha h.2)] at hfin
        have hLo := fun (F1 : Heap) (v1 : Value) (h : Srt.Row F1 v1 L) => h.ok
        have hfin := hfin (out ++ L) (by simp)
        rw [hfin]
        have hol1 : (out ++ L).length = out.length + L.length := by
          simp only [List.length_append, List.length_cons, List.length_nil]
        have hav1 : Srt.av (out ++ L) = Srt.av out ++ Srt.av L := by simp only [Srt.av_append]
        clear hfin hn
        generalize ho1 : out ++ L = o1 at *
        generalize Srt.av out = ao at *
        (repeat' (first|(with_reducible first|(refine hK _ _ ?_;clear hK K)|(refine hB ?_;clear hA hB A B)|(refine hK _ ?_;clear hK K))|((with_reducible refine gO ?_);(first|((with_reducible first|refine z25 ?_|refine z26 ?_);intro K hK;(conv=>whnf))|(with_reducible refine z0 ?_)))|((first|((with_reducible refine gI ?_);(first|(with_reducible refine NIf.decY ?s ?_;case s=>rfl)|((with_reducible refine NIf.decN ?s ?_);case s=>assumption)))|(with_reducible refine gN ?_;refine NN.a5 ?_)|((with_reducible refine gH ?_);((((with_reducible refine NH.mk ?side ?_); case side => (and_intros <;> first | with_reducible rfl | omega | ((first | exact hrow.ok | exact Srt.ones _ | rfl)))))))|((with_reducible refine gC ?_;refine NCall.isF 77 ?_);refine NCall.subw [0] _ _ (cv) rfl (by decide) rfl ?_; rintro _ _ ⟨F1, v1, hle1, hrow, rfl, rfl⟩; refine ⟨Nat.le_of_ble_eq_true rfl, _, rfl, ?_⟩))<;>(conv=>whnf))|(refine NRd.of (Srt.av L) (Srt.reads hrow).1 (Srt.reads hrow).2 ?_; conv=>whnf)|((with_reducible refine gX ?_);(first|(with_reducible first|refine z3 ?_|refine z4 ?_|refine z5 ?_|refine z6 ?_)|((with_reducible refine z29 ?_);intro A B hA hB;(conv=>whnf))))|(with_reducible first|refine z1 ?_|refine z2 ?_)|((with_reducible refine gF ?_);((refine z33 rfl ?_);intro K hK;(conv=>whnf)))|((intro _;skip)<;>(conv=>whnf))))
        rename_i w2
        have e0 : o1 ++ Po.valsL f (l.take 0) = o1 := by simp [Po.valsL]
        refine st_auto (α := Heap × Value × Nat) (fun (G, w, i) => F.le G ∧ i ≤ l.length) (fun (G, w, i) => [.set (.sl 1 w (o1 ++ Po.valsL f (l.take i)).length), .keep, .keep, .keep, .keep, .keep, .keep, .keep, .drop, .keep, .keep, .keep, .keep, .keep, .keep, .keep, .keep, .keep, .keep, .keep, .keep, .keep, .keep, .keep, .keep, .keep, .keep, .keep, .keep, .keep, .keep, .keep, .set (.int .i64 i), .drop, .drop, .drop, .drop, .drop, .drop, .drop, .drop, .keep]) (fun (G, w, i) => [.set (hpB G), .set ⟨addrOf w, Srt.av (o1 ++ Po.valsL f (l.take i)), .row w 3 1 (o1 ++ Po.valsL f (l.take i)).length⟩]) (fun (G, w, i) => l.length - i) (F1, w2, 0) ⟨hle1, Nat.zero_le _⟩ ?_ ?_ ?_
        · dsimp only
          rw [e0, hol1]
          repeat (first|exact FitsSl.nil|refine FitsSl.any ?_|refine FitsSl.cons (Fit1.int (by first | rfl | omega)) ?_|refine FitsSl.cons (Fit1.bool rfl) ?_|refine FitsSl.cons (Fit1.same (by intro h; cases h) (by with_reducible rfl)) ?_)
        · dsimp only
          rw [e0]
          exact MemFits.congr (by simp only [autoM, hav1, hol1, List.append_nil]; try rfl)
        (intro ⟨G, w, i⟩ ⟨hle, hi⟩; intro K hK; (conv=>whnf); refine hK _ _ ?_; clear hK K)
        dsimp only
        by_cases hlt : i < l.length
        · have hx : l[i]? = some l[i] := List.getElem?_eq_getElem hlt
          obtain ⟨pA, pcap, A, cap, hA, c0, c1, c2, c3, c4, c5, c6, c7⟩ := (Po.Row.mono hle hu).get hx
          have hAo := hA.l.ok
          have hAp := hA.p.ok
          have hmem := List.mem_of_getElem? hx
          have hst := Po.totL_take hlt
          have hle2 := Po.totL_le (l := l) (k := i + 1)
          have hvi := hvl i
          have hO : o1 ++ Po.valsL f (l.take (i + 1)) = o1 ++ Po.valsL f (l.take i) ++ Po.vals f l[i] := by rw [Po.valsL_take _ hlt, List.append_assoc]
          have hlo : (o1 ++ Po.valsL f (l.take i)).length = o1.length + (Po.valsL f (l.take i)).length := List.length_append
          have c := ih G _ hmem _ _ hA (o1 ++ Po.valsL f (l.take i)) w (by omega)
          rw [← hO] at c
          clear ih hvl hO
          generalize l[i] = y at *
          obtain ⟨yk, ⟨ypk, ypf, ypv, ypl⟩, yf, yv, yl⟩ := y
          simp only [Po.cs, Po.T.k, Po.T.p, Po.T.f, Po.T.v, Po.T.l, Pd.T.k, Pd.T.f, Pd.T.v, Pd.T.l] at c c0 c1 c2 c3 c4 c5 c6 c7 hAo hAp
          generalize o1 ++ Po.valsL f (l.take i) = O at *
          generalize hO2 : o1 ++ Po.valsL f (l.take (i + 1)) = O2 at *
          (repeat' (first|(with_reducible first|(refine hK _ _ ?_;clear hK K)|(refine hA ?_;clear hA hB A B))|((with_reducible refine gO ?_);(first|((with_reducible refine z25 ?_);intro K hK;(conv=>whnf))|(with_reducible refine z0 ?_)))|((first|((with_reducible refine gV ?_);(((with_reducible refine NV.i64 ?s ?_);case s=>omega)))|((with_reducible refine gI ?_);(((with_reducible refine NIf.decY ?s ?_);case s=>omega)))|(with_reducible refine gN ?_;first|refine NN.cast ?_|refine NN.keep ?_)|((with_reducible refine gH ?_;refine NH.mk ?s ?_);case s=>(and_intros<;>first|with_reducible rfl|((with_reducible refine gOnes ?_);rfl)|((with_reducible refine gLen ?_);rfl)|omega))|((with_reducible refine gC ?_;refine NCall.isF 48 ?_);refine NCall.subw [0, 1] _ _ (c) rfl (by decide) rfl ?_; rintro _ _ ⟨G', w', hle3, rfl, rfl⟩; refine ⟨Nat.le_of_ble_eq_true rfl, _, rfl, ?_⟩)|(with_reducible refine NLd.of (by with_reducible assumption) ?_))<;>(conv=>whnf))|((with_reducible refine gX ?_);(first|(with_reducible first|refine z3 ?_|refine z4 ?_|refine z5 ?_|refine z6 ?_)|((with_reducible refine z29 ?_);intro A B hA hB;(conv=>whnf))))|(with_reducible first|refine z1 ?_|refine z2 ?_|refine z9 ?_)|((intro _;skip)<;>(conv=>whnf))))
          refine st_round (G', w', i + 1) ⟨hle.trans hle3, hlt⟩ (by show l.length - (i + 1) < l.length - i; omega) ?_ (MemFits.pre 3 ?_)
          · dsimp only
            rw [hO2]
            repeat (first|exact FitsSl.nil|refine FitsSl.any ?_|refine FitsSl.cons (Fit1.int (by first | rfl | omega)) ?_|refine FitsSl.cons (Fit1.bool rfl) ?_|refine FitsSl.cons (Fit1.same (by intro h; cases h) (by with_reducible rfl)) ?_)
          · simp only [autoM, List.take, hO2]
            try rfl
        · have hkl : i = l.length := by omega
          subst hkl
          rw [List.take_length]
          clear ih
          (repeat' (first|(with_reducible first|(refine hK _ _ ?_;clear hK K)|(refine hB ?_;clear hA hB A B)|(refine hK _ ?_;clear hK K))|((with_reducible refine gO ?_);(first|((with_reducible refine z25 ?_);intro K hK;(conv=>whnf))|(with_reducible refine z0 ?_)))|((((with_reducible refine gI ?_);(((with_reducible refine NIf.decN ?s ?_);case s=>omega))))<;>(conv=>whnf))|((with_reducible refine gX ?_);(first|(with_reducible first|refine z3 ?_|refine z4 ?_|refine z7 ?_|refine z8 ?_)|((with_reducible refine z29 ?_);intro A B hA hB;(conv=>whnf))))|(with_reducible first|refine z1 ?_|refine z2 ?_|refine z10 ?_|refine z11 ?_|refine z19 ?_)|((with_reducible refine gR ?_);((refine z31 rfl ?_);intro K hK;(conv=>whnf)))))
          all_goals exact ⟨G, w, hle, rfl, MemFits.pre 2 rfl⟩
    · rw [if_neg (fun h => hk h.1)] at hfin
      have hLo := fun (F1 : Heap) (v1 : Value) (h : Srt.Row F1 v1 L) => h.ok
      have hfin := hfin (out ++ L) (by simp)
      rw [hfin]
      have hol1 : (out ++ L).length = out.length + L.length := by
        simp only [List.length_append, List.length_cons, List.length_nil]
      have hav1 : Srt.av (out ++ L) = Srt.av out ++ Srt.av L := by simp only [Srt.av_append]
      clear hfin hn
      generalize ho1 : out ++ L = o1 at *
      generalize Srt.av out = ao at *
      (repeat' (first|(with_reducible first|(refine hK _ _ ?_;clear hK K)|(refine hB ?_;clear hA hB A B)|(refine hK _ ?_;clear hK K))|((with_reducible refine gO ?_);(first|((with_reducible first|refine z25 ?_|refine z26 ?_);intro K hK;(conv=>whnf))|(with_reducible refine z0 ?_)))|((first|((with_reducible refine gI ?_);(first|((with_reducible refine NIf.decN ?s ?_);case s=>assumption)|((with_reducible refine NIf.no ?s ?_);case s=>rfl)))|(with_reducible refine gN ?_;refine NN.a5 ?_)|((with_reducible refine gH ?_);((((with_reducible refine NH.mk ?side ?_); case side => (and_intros <;> first | with_reducible rfl | omega | ((first | exact hrow.ok | exact Srt.ones _ | rfl)))))))|((with_reducible refine gC ?_;refine NCall.isF 77 ?_);refine NCall.subw [0] _ _ (cv) rfl (by decide) rfl ?_; rintro _ _ ⟨F1, v1, hle1, hrow, rfl, rfl⟩; refine ⟨Nat.le_of_ble_eq_true rfl, _, rfl, ?_⟩))<;>(conv=>whnf))|(refine NRd.of (Srt.av L) (Srt.reads hrow).1 (Srt.reads hrow).2 ?_; conv=>whnf)|((with_reducible refine gX ?_);(first|(with_reducible first|refine z3 ?_|refine z4 ?_|refine z5 ?_|refine z6 ?_)|((with_reducible refine z29 ?_);intro A B hA hB;(conv=>whnf))))|(with_reducible first|refine z1 ?_|refine z2 ?_)|((with_reducible refine gF ?_);((refine z33 rfl ?_);intro K hK;(conv=>whnf)))|((intro _;skip)<;>(conv=>whnf))))
      rename_i w2
      have e0 : o1 ++ Po.valsL f (l.take 0) = o1 := by simp [Po.valsL]
      refine st_auto (α := Heap × Value × Nat) (fun (G, w, i) => F.le G ∧ i ≤ l.length) (fun (G, w, i) => [.set (.sl 1 w (o1 ++ Po.valsL f (l.take i)).length), .keep, .keep, .keep, .keep, .keep, .keep, .keep, .drop, .keep, .keep, .keep, .keep, .keep, .keep, .keep, .keep, .keep, .keep, .keep, .keep, .keep, .keep, .keep, .keep, .keep, .keep, .keep, .keep, .keep, .keep, .keep, .set (.int .i64 i), .drop, .drop, .drop, .drop, .drop, .drop, .drop, .drop, .keep]) (fun (G, w, i) => [.set (hpB G), .set ⟨addrOf w, Srt.av (o1 ++ Po.valsL f (l.take i)), .row w 3 1 (o1 ++ Po.valsL f (l.take i)).length⟩]) (fun (G, w, i) => l.length - i) (F1, w2, 0) ⟨hle1, Nat.zero_le _⟩ ?_ ?_ ?_
      · dsimp only
        rw [e0, hol1]
        repeat (first|exact FitsSl.nil|refine FitsSl.any ?_|refine FitsSl.cons (Fit1.int (by first | rfl | omega)) ?_|refine FitsSl.cons (Fit1.bool rfl) ?_|refine FitsSl.cons (Fit1.same (by intro h; cases h) (by with_reducible rfl)) ?_)
      · dsimp only
        rw [e0]
        exact MemFits.congr (by simp only [autoM, hav1, hol1, List.append_nil]; try rfl)
      (intro ⟨G, w, i⟩ ⟨hle, hi⟩; intro K hK; (conv=>whnf); refine hK _ _ ?_; clear hK K)
      dsimp only
      by_cases hlt : i < l.length
      · have hx : l[i]? = some l[i] := List.getElem?_eq_getElem hlt
        obtain ⟨pA, pcap, A, cap, hA, c0, c1, c2, c3, c4, c5, c6, c7⟩ := (Po.Row.mono hle hu).get hx
        have hAo := hA.l.ok
        have hAp := hA.p.ok
        have hmem := List.mem_of_getElem? hx
        have hst := Po.totL_take hlt
        have hle2 := Po.totL_le (l := l) (k := i + 1)
        have hvi := hvl i
        have hO : o1 ++ Po.valsL f (l.take (i + 1)) = o1 ++ Po.valsL f (l.take i) ++ Po.vals f l[i] := by rw [Po.valsL_take _ hlt, List.append_assoc]
        have hlo : (o1 ++ Po.valsL f (l.take i)).length = o1.length + (Po.valsL f (l.take i)).length := List.length_append
        have c := ih G _ hmem _ _ hA (o1 ++ Po.valsL f (l.take i)) w (by omega)
        rw [← hO] at c
        clear ih hvl hO
        generalize l[i] = y at *
        obtain ⟨yk, ⟨ypk, ypf, ypv, ypl⟩, yf, yv, yl⟩ := y
        simp only [Po.cs, Po.T.k, Po.T.p, Po.T.f, Po.T.v, Po.T.l, Pd.T.k, Pd.T.f, Pd.T.v, Pd.T.l] at c c0 c1 c2 c3 c4 c5 c6 c7 hAo hAp
        generalize o1 ++ Po.valsL f (l.take i) = O at *
        generalize hO2 : o1 ++ Po.valsL f (l.take (i + 1)) = O2 at *
        (repeat' (first|(with_reducible first|(refine hK _ _ ?_;clear hK K)|(refine hA ?_;clear hA hB A B))|((with_reducible refine gO ?_);(first|((with_reducible refine z25 ?_);intro K hK;(conv=>whnf))|(with_reducible refine z0 ?_)))|((first|((with_reducible refine gV ?_);(((with_reducible refine NV.i64 ?s ?_);case s=>omega)))|((with_reducible refine gI ?_);(((with_reducible refine NIf.decY ?s ?_);case s=>omega)))|(with_reducible refine gN ?_;first|refine NN.cast ?_|refine NN.keep ?_)|((with_reducible refine gH ?_;refine NH.mk ?s ?_);case s=>(and_intros<;>first|with_reducible rfl|((with_reducible refine gOnes ?_);rfl)|((with_reducible refine gLen ?_);rfl)|omega))|((with_reducible refine gC ?_;refine NCall.isF 48 ?_);refine NCall.subw [0, 1] _ _ (c) rfl (by decide) rfl ?_; rintro _ _ ⟨G', w', hle3, rfl, rfl⟩; refine ⟨Nat.le_of_ble_eq_true rfl, _, rfl, ?_⟩)|(with_reducible refine NLd.of (by with_reducible assumption) ?_))<;>(conv=>whnf))|((with_reducible refine gX ?_);(first|(with_reducible first|refine z3 ?_|refine z4 ?_|refine z5 ?_|refine z6 ?_)|((with_reducible refine z29 ?_);intro A B hA hB;(conv=>whnf))))|(with_reducible first|refine z1 ?_|refine z2 ?_|refine z9 ?_)|((intro _;skip)<;>(conv=>whnf))))
        refine st_round (G', w', i + 1) ⟨hle.trans hle3, hlt⟩ (by show l.length - (i + 1) < l.length - i; omega) ?_ (MemFits.pre 3 ?_)
        · dsimp only
          rw [hO2]
          repeat (first|exact FitsSl.nil|refine FitsSl.any ?_|refine FitsSl.cons (Fit1.int (by first | rfl | omega)) ?_|refine FitsSl.cons (Fit1.bool rfl) ?_|refine FitsSl.cons (Fit1.same (by intro h; cases h) (by with_reducible rfl)) ?_)
        · simp only [autoM, List.take, hO2]
          try rfl
      · have hkl : i = l.length := by omega
        subst hkl
        rw [List.take_length]
        clear ih
        (repeat' (first|(with_reducible first|(refine hK _ _ ?_;clear hK K)|(refine hB ?_;clear hA hB A B)|(refine hK _ ?_;clear hK K))|((with_reducible refine gO ?_);(first|((with_reducible refine z25 ?_);intro K hK;(conv=>whnf))|(with_reducible refine z0 ?_)))|((((with_reducible refine gI ?_);(((with_reducible refine NIf.decN ?s ?_);case s=>omega))))<;>(conv=>whnf))|((with_reducible refine gX ?_);(first|(with_reducible first|refine z3 ?_|refine z4 ?_|refine z7 ?_|refine z8 ?_)|((with_reducible refine z29 ?_);intro A B hA hB;(conv=>whnf))))|(with_reducible first|refine z1 ?_|refine z2 ?_|refine z10 ?_|refine z11 ?_|refine z19 ?_)|((with_reducible refine gR ?_);((refine z31 rfl ?_);intro K hK;(conv=>whnf)))))
        all_goals exact ⟨G, w, hle, rfl, MemFits.pre 2 rfl⟩
theorem Values27_c (F : Heap) (x : Po.T) (pu u : Value) (f : Int) (hf : -9223372036854775808 ≤ f ∧ f ≤ 9223372036854775807) (hs : Po.tot x ≤ 2932031007402) (hx : Po.At F x pu u) :
    NCall Tryz.prog 26 [.agg (Po.cs x pu u), .int .i64 f] [hpB F] fun r m => Srt.Lays F (Po.values f x) r m := by
  have hln := Po.vals_len f x
  have c1 := values27_c f hf _ F x pu u [] (.slice none 0 0) (Nat.le_refl _) (by simpa using hs) hx
  have c0 : NCall Tryz.prog 48 [.raw (.slice none 0 0), .agg (Po.cs x pu u), .int .i64 f] [hpB F] _ := NCall.rowPre c1 rfl
  rw [List.nil_append] at c0
  clear c1
  have hv := Po.values_comp f x
  have hsl := Srt.sort_len (Po.vals f x)
  refine Go.Sx.NCall.know (K := fun r m => ∃ F' v, F.le F' ∧ r = .raw (Srt.cutTo v (Po.values f x).length) ∧ MemFits m [hpB F', ⟨addrOf v, Srt.av (Srt.comped (Srt.sort (Po.vals f x))), .row v 3 1 (Po.vals f x).length⟩]) ?_ fun r m' ⟨F', v, hF, hr, hm⟩ ⟨w, hw⟩ => ?_
  · rw [← hv]
    have c2 := fun v => sort_c v 3 (Po.vals f x) (by omega)
    have c3 := fun v => compact_c v 3 (Srt.sort (Po.vals f x)) (by omega)
    rw [hsl] at c3
    generalize Srt.comped (Srt.sort (Po.vals f x)) = D2 at *
    generalize (Srt.comp (Srt.sort (Po.vals f x))).length = n2 at *
    generalize Srt.av (Srt.sort (Po.vals f x)) = D1 at *
    generalize Srt.av (Po.vals f x) = D0 at *
    generalize (Po.vals f x).length = n0 at *
    have hok := hx.l.ok
    have hpok := hx.p.ok
    clear hv hsl
    obtain ⟨k, ⟨pk, pf, pv, pl⟩, a, v, l⟩ := x
    simp only [po_cs, Po.T.l, Po.T.p, Pd.T.k, Pd.T.f, Pd.T.v, Pd.T.l] at *
    refine ncall_of Tryz.func26 rfl (by decide) ?_
    (repeat' (first|(with_reducible first|(refine hK _ _ ?_;clear hK K)|(refine hK _ ?_;clear hK K))|((with_reducible refine gO ?_);(first|((with_reducible refine z25 ?_);intro K hK;(conv=>whnf))|(with_reducible refine z0 ?_)))|((first|((with_reducible refine gH ?_;refine NH.mk ?s ?_);case s=>(and_intros<;>with_reducible rfl))|((with_reducible refine gC ?_);(first|((with_reducible refine NCall.isF 48 ?_);refine NCall.subw [0] _ _ (c0) rfl (by decide) rfl ?_; rintro _ _ ⟨F1, w', hle, rfl, rfl⟩; refine ⟨Nat.le_of_ble_eq_true rfl, .sl 2 w' n0, rfl, ?_⟩)|((with_reducible refine NCall.isF 49 ?_);refine NCall.subE [2] (c2 _) rfl (by decide) rfl rfl ?_)|((with_reducible refine NCall.isF 50 ?_);refine NCall.subE [2] (c3 _) rfl (by decide) rfl rfl ?_))))<;>(conv=>whnf))|(with_reducible refine gX ?_;first|refine z3 ?_|refine z4 ?_|refine z8 ?_)|(with_reducible first|refine z1 ?_|refine z2 ?_)|((with_reducible refine gR ?_);((refine z31 rfl ?_);intro K hK;(conv=>whnf)))|((with_reducible refine gF ?_);((refine z33 rfl ?_);intro K hK;(conv=>whnf)))|((intro _;skip)<;>(conv=>whnf))))
    all_goals exact ⟨F1, _, hle, rfl, MemFits.pick [0, 2] (by decide) rfl⟩
  · have hok := ((hm w hw).1.row (List.mem_cons_of_mem _ (List.mem_cons_self ..))).1
    rw [← hsl, ← Srt.comped_len] at hok
    have hrow := rowF_new (F := F') (sz := 1) (enc := Srt.V) hok (Srt.av_flat _) (fun x _ => rfl)
    obtain ⟨h1, h2⟩ := Srt.row_cut hrow
    rw [hv] at h1 h2
    exact ⟨_, _, by rw [hr]; exact h2.symm, hm.trans (MemFits.freeze (m := [])), _, _, hF.trans addF.old, h1, rfl, rfl⟩
end Go.Proofs.YtngodakgbldlpaaGreatDoor
namespace Go.Proofs.YtngodakgbldlpaaGreatDoor
open Go.Sx
set_option maxRecDepth 20000
set_option linter.unusedSimpArgs false
set_option linter.unusedVariables false
set_option maxHeartbeats 8000000
set_option linter.unusedVariables false
theorem ptells27_c (F : Heap) (hT : TabF F) (x y : Po.T) (pu u pw w : Value) (sw f : Int) (s : Po.S) (hf : -9223372036854775808 ≤ f ∧ f ≤ 9223372036854775807) (hs : Po.tot x ≤ 1000000000) (hs2 : Po.tot y ≤ 1000000000) (hx : Po.At F x pu u) (hy : Po.At F y pw w) :
    NCall Tryz.prog 5 [.agg (Po.cs x pu u), .agg (Po.cs y pw w), .int .i64 sw, .int .i64 s.port, .agg [.int .i64 s.p0, .int .i64 s.p1, .int .i64 s.p2, .int .i64 s.p3], .int .i64 f] [hpB F] fun r _ => r = .bool true := by
  have hok := hx.l.ok
  have hok2 := hy.l.ok
  have hpok := hx.p.ok
  have hpok2 := hy.p.ok
  have s1 := count27_c F _ x pu u (Nat.le_refl _) (by omega) hx
  have s2 := count27_c F _ y pw w (Nat.le_refl _) (by omega) hy
  have cw := fun G (h : F.le G) => awake27_c G (hT.mono h)
  by_cases hsm : Po.tot x ≤ 150 ∧ Po.tot y ≤ 150
  rotate_left
  · have : Po.tot x ≤ 150 → ¬ Po.tot y ≤ 150 := fun h h2 => hsm ⟨h, h2⟩
    generalize Po.tot x = n1 at *
    generalize Po.tot y = n2 at *
    clear hx hy
    have cw := cw F F.le_refl
    obtain ⟨k, ⟨pk, pf, pv, pl⟩, a, v, l⟩ := x
    obtain ⟨k', ⟨pk', pf', pv', pl'⟩, a', v', l'⟩ := y
    obtain ⟨port, p0, p1, p2, p3⟩ := s
    simp only [po_cs, Po.T.l, Po.T.p, Pd.T.k, Pd.T.f, Pd.T.v, Pd.T.l] at *
    refine ncall_of Tryz.func5 rfl (by decide) ?_
    (repeat' (first|(with_reducible first|(refine hK _ _ ?_;clear hK K)|(refine hA ?_;clear hA hB A B)|(refine hK _ ?_;clear hK K))|((with_reducible refine gO ?_);(first|((with_reducible first|refine z25 ?_|refine z26 ?_);intro K hK;(conv=>whnf))|(with_reducible refine z0 ?_)))|((first|((with_reducible refine gI ?_);(first|((with_reducible refine NIf.decY ?s ?_);case s=>first|assumption|omega)|((with_reducible refine NIf.decN ?s ?_);case s=>assumption)|((with_reducible refine NIf.yes ?s ?_);case s=>rfl)|(with_reducible refine NIf.dec (fun _=>?_) (fun _=>?_))))|((with_reducible refine gH ?_;refine NH.mk ?s ?_);case s=>(and_intros<;>with_reducible rfl))|((with_reducible refine gC ?_);(first|((with_reducible refine NCall.isF 14 ?_);refine NCall.subE [0] (s1) rfl (by decide) rfl rfl ?_)|((with_reducible refine NCall.isF 14 ?_);refine NCall.subE [0] (s2) rfl (by decide) rfl rfl ?_)|((with_reducible refine NCall.isF 8 ?_);refine NCall.subE [0] (cw) rfl (by decide) rfl rfl ?_))))<;>(conv=>whnf))|((with_reducible refine gX ?_);(first|(with_reducible first|refine z3 ?_|refine z4 ?_|refine z8 ?_)|((with_reducible refine z29 ?_);intro A B hA hB;(conv=>whnf))))|(with_reducible first|refine z1 ?_|refine z2 ?_|refine z12 ?_)|((with_reducible refine gR ?_);((refine z31 rfl ?_);intro K hK;(conv=>whnf)))|((with_reducible refine gF ?_);((refine z33 rfl ?_);intro K hK;(conv=>whnf)))|((intro _;skip)<;>(conv=>whnf))))
    all_goals first
      | rfl
      | (exfalso; omega)
  obtain ⟨hp1, hp2⟩ := hsm
  have cm := mine27_c _ F x pu u (Nat.le_refl _) (by omega) hx
  have cm2 := fun G (h : F.le G) => mine27_c _ G y pw w (Nat.le_refl _) (by omega) (Po.At.mono h hy)
  have cR := fun G a b (h : Po.At G x a b) => right27_c G x a b (by omega) h
  have dR := fun G (h : F.le G) => refright27_c G x pu u (by omega) (Po.At.mono h hx)
  have cS := fun G a b (h : Po.At G x a b) => size27_c G _ x a b (Nat.le_refl _) (by omega) h
  have dS := fun G (h : F.le G) => refsize27_c G _ x pu u (Nat.le_refl _) (by omega) (Po.At.mono h hx)
  have cD := fun G a b (h : Po.At G x a b) => deep27_c G _ x a b (Nat.le_refl _) (by omega) h
  have dD := fun G (h : F.le G) => refdeep27_c G _ x pu u (Nat.le_refl _) (by omega) (Po.At.mono h hx)
  have cW := fun G a b (h : Po.At G x a b) => wide27_c G _ x a b (Nat.le_refl _) (by omega) h
  have dW := fun G (h : F.le G) => refwide27_c G _ x pu u (Nat.le_refl _) (by omega) (Po.At.mono h hx)
  have cE := fun G a b c d (h : Po.At G x a b) (h2 : Po.At G y c d) => same27_c G _ x y a b c d (Nat.le_refl _) (by omega) (by omega) h h2
  have dE := fun G (h : F.le G) => refsame27_c G _ x y pu u pw w (Nat.le_refl _) (by omega) (by omega) (Po.At.mono h hx) (Po.At.mono h hy)
  have hmono : ∀ G G' a b, G.le G' → Po.At G x a b → Po.At G' x a b := fun G G' a b h h2 => Po.At.mono h h2
  have hz1 : Po.size x ≤ 150 := Nat.le_trans (Po.size_tot x) hp1
  have hz2 : Po.deep x ≤ 150 := Nat.le_trans (Po.deep_tot x) hp1
  have hz3 := Po.wide_le x
  by_cases hr : Po.right x = true
  rotate_left
  · have hr : Po.right x = false := by simpa using hr
    rw [hr] at cR dR
    clear hx hy hr
    generalize Po.tot x = n1 at *
    generalize Po.tot y = n2 at *
    generalize Po.size x = n3 at *
    generalize Po.deep x = n4 at *
    generalize Po.wide x = n5 at *
    generalize Po.same x y = b1 at *
    obtain ⟨k, ⟨pk, pf, pv, pl⟩, a, v, l⟩ := x
    obtain ⟨k', ⟨pk', pf', pv', pl'⟩, a', v', l'⟩ := y
    obtain ⟨port, p0, p1, p2, p3⟩ := s
    simp only [po_cs, Po.Lays, Po.T.l, Po.T.p, Pd.T.k, Pd.T.f, Pd.T.v, Pd.T.l] at *
    refine ncall_of Tryz.func5 rfl (by decide) ?_
    (repeat' (first|(with_reducible first|(refine hK _ _ ?_;clear hK K)|(refine hA ?_;clear hA hB A B)|(refine hB ?_;clear hA hB A B)|(refine hK _ ?_;clear hK K))|((with_reducible refine gO ?_);(first|((with_reducible first|refine z25 ?_|refine z26 ?_);intro K hK;(conv=>whnf))|(with_reducible refine z0 ?_)))|((first|((with_reducible refine gI ?_);(first|(((with_reducible refine NIf.yes ?s ?_);case s=>(simp ;done)))|(((with_reducible refine NIf.no ?s ?_);case s=>(simp ;done)))|((with_reducible refine NIf.decN ?s ?_);case s=>omega)))|((with_reducible refine gH ?_;refine NH.mk ?s ?_);case s=>(and_intros<;>first|with_reducible rfl|((with_reducible refine gOnes ?_);rfl)|((with_reducible refine gLen ?_);rfl)|((with_reducible refine gKept ?_);exact rfl)|rfl))|((with_reducible refine gC ?_);(first|((with_reducible refine NCall.isF 14 ?_);refine NCall.subE [0] (s1) rfl (by decide) rfl rfl ?_)|((with_reducible refine NCall.isF 14 ?_);refine NCall.subE [0] (s2) rfl (by decide) rfl rfl ?_)|((with_reducible refine NCall.isF 9 ?_);refine NCall.subw [0] _ _ (cm) rfl (by decide) rfl ?_; rintro _ _ ⟨F1, a1, u1, hle1, hu1, rfl, rfl⟩; refine ⟨Nat.le_of_ble_eq_true rfl, _, rfl, ?_⟩)|((with_reducible refine NCall.isF 15 ?_);refine NCall.subE [0] (cR F1 a1 u1 hu1) rfl (by decide) rfl rfl ?_)|((with_reducible refine NCall.isF 6 ?_);refine NCall.subE [0] (dR F1 hle1) rfl (by decide) rfl rfl ?_)|((with_reducible refine NCall.isF 16 ?_);refine NCall.subE [0] (cS F1 a1 u1 hu1) rfl (by decide) rfl rfl ?_)|((with_reducible refine NCall.isF 17 ?_);refine NCall.subE [0] (dS F1 hle1) rfl (by decide) rfl rfl ?_)|((with_reducible refine NCall.isF 18 ?_);refine NCall.subE [0] (cD F1 a1 u1 hu1) rfl (by decide) rfl rfl ?_)|((with_reducible refine NCall.isF 19 ?_);refine NCall.subE [0] (dD F1 hle1) rfl (by decide) rfl rfl ?_)|((with_reducible refine NCall.isF 20 ?_);refine NCall.subE [0] (cW F1 a1 u1 hu1) rfl (by decide) rfl rfl ?_)|((with_reducible refine NCall.isF 21 ?_);refine NCall.subE [0] (dW F1 hle1) rfl (by decide) rfl rfl ?_)|((with_reducible refine NCall.isF 9 ?_);refine NCall.subw [0] _ _ (cm2 F1 hle1) rfl (by decide) rfl ?_; rintro _ _ ⟨F2, a2, u2, hle2, hu2, rfl, rfl⟩; refine ⟨Nat.le_of_ble_eq_true rfl, _, rfl, ?_⟩)|((with_reducible refine NCall.isF 22 ?_);refine NCall.subE [0] (cE F2 a1 u1 a2 u2 (hmono _ _ _ _ hle2 hu1) hu2) rfl (by decide) rfl rfl ?_)|((with_reducible refine NCall.isF 23 ?_);refine NCall.subE [0] (dE F2 (hle1.trans hle2)) rfl (by decide) rfl rfl ?_)|((with_reducible refine NCall.isF 6 ?_);refine NCall.subE [0] (dR F2 (hle1.trans hle2)) rfl (by decide) rfl rfl ?_)|((with_reducible refine NCall.isF 8 ?_);refine NCall.subE [0] (cw F2 (hle1.trans hle2)) rfl (by decide) rfl rfl ?_))))<;>(conv=>whnf))|(with_reducible refine gNRK ?_;refine st_ordSout ?_)|((with_reducible refine gNOK ?_);(first|(refine st_ordK1 rfl (by kernel_rfl) rfl ?_; intro K hK; (conv=>whnf))|(refine st_ordK1g rfl (by kernel_rfl) rfl ?_; intro K hK; (conv=>whnf))|(refine st_ordK0 rfl (by kernel_rfl) ?_)|(refine st_ordKA rfl rfl (by kernel_rfl) (by intro h; cases h) ?_)))|((with_reducible refine gNEK ?_);(first|(refine st_eachK ?_ ?_; (intro K hK; (conv=>whnf)))|(refine st_eachKg rfl ?_ ?_; (intro K hK; (conv=>whnf)))|exact st_eachK0))|((with_reducible refine gX ?_);(first|(refine st_orderS [0] rfl rfl (by kernel_rfl) _ rfl ?_)|(with_reducible first|refine z3 ?_|refine z4 ?_|refine z6 ?_|refine z8 ?_)|((with_reducible refine z29 ?_);intro A B hA hB;(conv=>whnf))))|(with_reducible first|refine z1 ?_|refine z2 ?_|refine z12 ?_)|((with_reducible refine gR ?_);((refine z31 rfl ?_);intro K hK;(conv=>whnf)))|((with_reducible refine gF ?_);((refine z33 rfl ?_);intro K hK;(conv=>whnf)))|((intro _;skip)<;>(conv=>whnf))))
    all_goals first
      | rfl
      | (exfalso; omega)
  have hrl := Po.runs_64 sw x hr s
  rw [hr] at cR dR
  have hfit := Po.right_fits' hr
  have hw64 : Po.wide x < 1000 := by
    unfold Po.right at hr
    simp only [Bool.and_eq_true, decide_eq_true_eq] at hr
    omega
  have cU := fun G a b (h : Po.At G x a b) => Run27_c G x a b sw s (by omega) hfit (by omega) h
  have dU := fun G (h : F.le G) => refrun27_c sw _ G x pu u s (Nat.le_refl _) (by omega) hfit hw64 (Po.At.mono h hx)
  have c9 := fun G v6 v7 h6 h7 => sent27_c G v6 v7 (Po.runs sw x s) (Po.runs sw x s) h6 h7 (by omega) (by omega)
  rw [show decide (Po.runs sw x s = Po.runs sw x s) = true by simp] at c9
  have cV := fun G a b (h : Po.At G x a b) => Values27_c G x a b f hf (by omega) h
  have dV := fun G (h : F.le G) => refvalues27_c G x pu u f hf (by omega) (Po.At.mono h hx)
  rw [Po.asked_values f x hfit] at dV
  have hVl : (Po.values f x).length ≤ 150 := Nat.le_trans (Po.values_len f x) hp1
  have c13 := fun G v6 v7 h6 h7 => same13_c G (Po.values f x) (Po.values f x) v6 v7 h6 h7 (by omega) (by omega)
  rw [show decide (Po.values f x = Po.values f x) = true by simp] at c13
  have cX := fun G a b (hG : F.le G) (h : Po.At G x a b) => text27_c G (hT.mono hG) _ x a b (Nat.le_refl _) (by omega) hfit h
  have dX := fun G (h : F.le G) => reftext27_c G _ x pu u (Nat.le_refl _) (by omega) hfit (Po.At.mono h hx)
  have hmonoS : ∀ G G' v, G.le G' → Po.SRow G v (Po.runs sw x s) → Po.SRow G' v (Po.runs sw x s) := fun G G' v h h2 => Po.SRow.mono h h2
  have hmonoV : ∀ G G' v, G.le G' → Srt.Row G v (Po.values f x) → Srt.Row G' v (Po.values f x) := fun G G' v h h2 => RowF.mono h (fun _ _ h => h) h2
  clear hx hy hr hfit hw64
  generalize Po.tot x = n1 at *
  generalize Po.tot y = n2 at *
  generalize Po.size x = n3 at *
  generalize Po.deep x = n4 at *
  generalize Po.wide x = n5 at *
  generalize Po.same x y = b1 at *
  generalize Po.runs sw x s = R at *
  generalize Po.values f x = L at *
  generalize Po.text x = tx at *
  obtain ⟨k, ⟨pk, pf, pv, pl⟩, a, v, l⟩ := x
  obtain ⟨k', ⟨pk', pf', pv', pl'⟩, a', v', l'⟩ := y
  obtain ⟨port, p0, p1, p2, p3⟩ := s
  simp only [po_cs, Po.Lays, Po.T.l, Po.T.p, Pd.T.k, Pd.T.f, Pd.T.v, Pd.T.l] at *
  refine ncall_of Tryz.func5 rfl (by decide) ?_
  (repeat' (first|(with_reducible first|(refine hK _ _ ?_;clear hK K)|(refine hB ?_;clear hA hB A B)|(refine hK _ ?_;clear hK K))|((with_reducible refine gO ?_);(first|((with_reducible first|refine z25 ?_|refine z26 ?_);intro K hK;(conv=>whnf))|(with_reducible refine z0 ?_)))|((first|((with_reducible refine gI ?_);(first|(((with_reducible refine NIf.yes ?s ?_);case s=>(simp ;done)))|(((with_reducible refine NIf.no ?s ?_);case s=>(simp ;done)))|((with_reducible refine NIf.decN ?s ?_);case s=>omega)))|((with_reducible refine gH ?_;refine NH.mk ?s ?_);case s=>(and_intros<;>first|with_reducible rfl|((with_reducible refine gOnes ?_);rfl)|((with_reducible refine gLen ?_);rfl)|((with_reducible refine gKept ?_);exact rfl)|rfl))|((with_reducible refine gC ?_);(first|((with_reducible refine NCall.isF 14 ?_);refine NCall.subE [0] (s1) rfl (by decide) rfl rfl ?_)|((with_reducible refine NCall.isF 14 ?_);refine NCall.subE [0] (s2) rfl (by decide) rfl rfl ?_)|((with_reducible refine NCall.isF 9 ?_);refine NCall.subw [0] _ _ (cm) rfl (by decide) rfl ?_; rintro _ _ ⟨F1, a1, u1, hle1, hu1, rfl, rfl⟩; refine ⟨Nat.le_of_ble_eq_true rfl, _, rfl, ?_⟩)|((with_reducible refine NCall.isF 15 ?_);refine NCall.subE [0] (cR F1 a1 u1 hu1) rfl (by decide) rfl rfl ?_)|((with_reducible refine NCall.isF 6 ?_);refine NCall.subE [0] (dR F1 hle1) rfl (by decide) rfl rfl ?_)|((with_reducible refine NCall.isF 16 ?_);refine NCall.subE [0] (cS F1 a1 u1 hu1) rfl (by decide) rfl rfl ?_)|((with_reducible refine NCall.isF 17 ?_);refine NCall.subE [0] (dS F1 hle1) rfl (by decide) rfl rfl ?_)|((with_reducible refine NCall.isF 18 ?_);refine NCall.subE [0] (cD F1 a1 u1 hu1) rfl (by decide) rfl rfl ?_)|((with_reducible refine NCall.isF 19 ?_);refine NCall.subE [0] (dD F1 hle1) rfl (by decide) rfl rfl ?_)|((with_reducible refine NCall.isF 20 ?_);refine NCall.subE [0] (cW F1 a1 u1 hu1) rfl (by decide) rfl rfl ?_)|((with_reducible refine NCall.isF 21 ?_);refine NCall.subE [0] (dW F1 hle1) rfl (by decide) rfl rfl ?_)|((with_reducible refine NCall.isF 9 ?_);refine NCall.subw [0] _ _ (cm2 F1 hle1) rfl (by decide) rfl ?_; rintro _ _ ⟨F2, a2, u2, hle2, hu2, rfl, rfl⟩; refine ⟨Nat.le_of_ble_eq_true rfl, _, rfl, ?_⟩)|((with_reducible refine NCall.isF 22 ?_);refine NCall.subE [0] (cE F2 a1 u1 a2 u2 (hmono _ _ _ _ hle2 hu1) hu2) rfl (by decide) rfl rfl ?_)|((with_reducible refine NCall.isF 23 ?_);refine NCall.subE [0] (dE F2 (hle1.trans hle2)) rfl (by decide) rfl rfl ?_)|((with_reducible refine NCall.isF 6 ?_);refine NCall.subE [0] (dR F2 (hle1.trans hle2)) rfl (by decide) rfl rfl ?_)|((with_reducible refine NCall.isF 13 ?_);refine NCall.subw [0] _ _ (cU F2 a1 u1 (hmono _ _ _ _ hle2 hu1)) rfl (by decide) rfl ?_; rintro _ _ ⟨F3, v3, hle3, hv3, rfl, rfl⟩; refine ⟨Nat.le_of_ble_eq_true rfl, _, rfl, ?_⟩)|((with_reducible refine NCall.isF 24 ?_);refine NCall.subw [0] _ _ (dU F3 ((hle1.trans hle2).trans hle3)) rfl (by decide) rfl ?_; rintro _ _ ⟨F4, v4, hle4, hv4, rfl, rfl⟩; refine ⟨Nat.le_of_ble_eq_true rfl, _, rfl, ?_⟩)|((with_reducible refine NCall.isF 12 ?_);refine NCall.subE [0] (c9 F4 v3 v4 (hmonoS _ _ _ hle4 hv3) hv4) rfl (by decide) rfl rfl ?_)|((with_reducible refine NCall.isF 26 ?_);refine NCall.subw [0] _ _ (cV F4 a1 u1 (hmono _ _ _ _ ((hle2.trans hle3).trans hle4) hu1)) rfl (by decide) rfl ?_; rintro _ _ ⟨F5, v5, hle5, hv5, rfl, rfl⟩; refine ⟨Nat.le_of_ble_eq_true rfl, _, rfl, ?_⟩)|((with_reducible refine NCall.isF 27 ?_);refine NCall.subw [0] _ _ (dV F5 ((((hle1.trans hle2).trans hle3).trans hle4).trans hle5)) rfl (by decide) rfl ?_; rintro _ _ ⟨F6, v6, hle6, hv6, rfl, rfl⟩; refine ⟨Nat.le_of_ble_eq_true rfl, _, rfl, ?_⟩)|((with_reducible refine NCall.isF 25 ?_);refine NCall.subE [0] (c13 F6 v5 v6 (hmonoV _ _ _ hle6 hv5) hv6) rfl (by decide) rfl rfl ?_)|((with_reducible refine NCall.isF 28 ?_);refine NCall.subE [0] (cX F6 a1 u1 (((((hle1.trans hle2).trans hle3).trans hle4).trans hle5).trans hle6) (hmono _ _ _ _ ((((hle2.trans hle3).trans hle4).trans hle5).trans hle6) hu1)) rfl (by decide) rfl rfl ?_)|((with_reducible refine NCall.isF 29 ?_);refine NCall.subE [0] (dX F6 (((((hle1.trans hle2).trans hle3).trans hle4).trans hle5).trans hle6)) rfl (by decide) rfl rfl ?_)|((with_reducible refine NCall.isF 8 ?_);refine NCall.subE [0] (cw F6 (((((hle1.trans hle2).trans hle3).trans hle4).trans hle5).trans hle6)) rfl (by decide) rfl rfl ?_))))<;>(conv=>whnf))|(with_reducible refine gNRK ?_;refine st_ordSout ?_)|((with_reducible refine gNOK ?_);(first|(refine st_ordK1 rfl (by kernel_rfl) rfl ?_; intro K hK; (conv=>whnf))|(refine st_ordK1g rfl (by kernel_rfl) rfl ?_; intro K hK; (conv=>whnf))|(refine st_ordK0 rfl (by kernel_rfl) ?_)|(refine st_ordKA rfl rfl (by kernel_rfl) (by intro h; cases h) ?_)))|((with_reducible refine gNEK ?_);(first|(refine st_eachK ?_ ?_; (intro K hK; (conv=>whnf)))|(refine st_eachKg rfl ?_ ?_; (intro K hK; (conv=>whnf)))|exact st_eachK0))|((with_reducible refine gX ?_);(first|(refine st_orderS [0] rfl rfl (by kernel_rfl) _ rfl ?_)|(with_reducible first|refine z3 ?_|refine z4 ?_|refine z6 ?_|refine z8 ?_)|((with_reducible refine z29 ?_);intro A B hA hB;(conv=>whnf))))|(with_reducible first|refine z1 ?_|refine z2 ?_)|((with_reducible refine gR ?_);((refine z31 rfl ?_);intro K hK;(conv=>whnf)))|((with_reducible refine gF ?_);((refine z33 rfl ?_);intro K hK;(conv=>whnf)))|((intro _;skip)<;>(conv=>whnf))))
  all_goals first
    | rfl
    | (exfalso; omega)
end Go.Proofs.YtngodakgbldlpaaGreatDoor
