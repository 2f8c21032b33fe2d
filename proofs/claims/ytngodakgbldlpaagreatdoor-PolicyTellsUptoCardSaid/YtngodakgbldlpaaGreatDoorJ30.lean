import Derived.Test.YtngodakgbldlpaaGreatDoorJ29
import Derived.Test.YtngodakgbldlpaaGreatDoorJ13
import Derived.Lib.Join
import Derived.Test.YtngodakgbldlpaaGreatDoorSxC
namespace Go.Proofs.YtngodakgbldlpaaGreatDoor
open Go.Sx
set_option maxRecDepth 20000
set_option linter.unusedSimpArgs false
set_option linter.unusedVariables false
set_option maxHeartbeats 4000000
set_option linter.unusedVariables false
theorem refvalues27_c (F : Heap) (x : Po.T) (pu u : Value) (f : Int) (hf : -9223372036854775808 ≤ f ∧ f ≤ 9223372036854775807) (hs : Po.tot x ≤ 4611686018427387904) (hx : Po.At F x pu u) :
    NCall Tryz.prog 27 [.agg (Po.cs x pu u), .int .i64 f] [hpB F] fun r m => Srt.Lays F (Po.asked f x ((Pd.top f).toNat + 1)) r m := by
  refine Srt.know (t := 3) ?_
  have hok := hx.l.ok
  have hpok := hx.p.ok
  have ctop := reftop26_c f
  have ht0 := Pd.top_nonneg f
  have ht1 : Pd.top f ≤ 255 := by unfold Pd.top; split <;> first | omega | (split <;> first | omega | (split <;> omega))
  have ca : ∀ i : Nat, NCall Tryz.prog 52 [.agg (Po.cs x pu u), .int .i64 f, .int .i64 i] [hpB F] fun r m => r = .bool (decide ((i : Int) ∈ Po.vals f x)) ∧ m = [hpB F] := fun i => has27_c F f i hf _ x pu u (Nat.le_refl _) hs hx
  have hnx := Po.asked_next f x
  have hln := Po.asked_len f x
  have h0 : Po.asked f x 0 = [] := rfl
  generalize Pd.top f = T at *
  generalize hE : Po.vals f x = E at *
  generalize hW : Po.asked f x = W at *
  clear hs hx hE hW
  obtain ⟨k, ⟨pk, pf, pv, pl⟩, a, v, l⟩ := x
  simp only [po_cs, Po.T.l, Po.T.p, Pd.T.k, Pd.T.f, Pd.T.v, Pd.T.l] at *
  refine ncall_of Tryz.func27 rfl (by decide) ?_
  (repeat' (first|(with_reducible first|(refine hK _ _ ?_;clear hK K)|(refine hK _ ?_;clear hK K))|((with_reducible refine gO ?_);(first|((with_reducible refine z25 ?_);intro K hK;(conv=>whnf))|(with_reducible refine z0 ?_)))|(with_reducible refine gX ?_;first|refine z3 ?_|refine z4 ?_|refine z5 ?_)|(with_reducible first|refine z1 ?_|refine z2 ?_)|((with_reducible refine gF ?_);((refine z33 rfl ?_);intro K hK;(conv=>whnf)))|((intro _;skip)<;>(conv=>whnf))))
  refine st_auto (α := Value × Nat) (fun (w, i) => i ≤ T.toNat + 1) (fun (w, i) => [.keep, .keep, .keep, .keep, .keep, .set (.sl 2 w (W i).length), .set (.int .i64 i), .drop, .drop, .drop, .drop, .drop, .drop, .drop, .drop, .drop, .drop, .drop, .drop, .drop, .drop, .keep]) (fun (w, i) => [.keep, .keep, .set ⟨addrOf w, Srt.av (W i), .row w 3 1 (W i).length⟩]) (fun (w, i) => T.toNat + 1 - i) (.slice none 0 0, 0) (Nat.zero_le _) ?_ ((MemFits.nilRow _ 3 1).trans (MemFits.congr (by simp only [autoM, h0]; rfl))) ?_
  · dsimp only
    rw [h0]
    repeat (first|exact FitsSl.nil|refine FitsSl.any ?_|refine FitsSl.cons (Fit1.int (by first | rfl | omega)) ?_|refine FitsSl.cons (Fit1.same (by intro h; cases h) (by with_reducible rfl)) ?_|refine FitsSl.cons Fit1.nil_sl ?_)
  (intro ⟨w, i⟩ hi; intro K hK; (conv=>whnf); refine hK _ _ ?_; clear hK K)
  dsimp only
  have hi : i ≤ T.toNat + 1 := hi
  have hl := hln i
  by_cases hlt : (i : Int) ≤ T
  · have c := ca i
    have hn := hnx i
    by_cases hE : (i : Int) ∈ E
    · rw [decide_eq_true hE] at c
      rw [if_pos hE] at hn
      have hav := Srt.av_append (W i) [(i : Int)]
      have hal := Srt.av_len (W i)
      rw [← hn] at hav
      have hlen : (W (i + 1)).length = (W i).length + 1 := by rw [hn, List.length_append]; rfl
      generalize Srt.av (W i) = B at *
      clear ca hnx hln
      (repeat' (first|(with_reducible first|(refine hK _ _ ?_;clear hK K)|(refine hA ?_;clear hA hB A B))|((with_reducible refine gO ?_);(first|((with_reducible refine z25 ?_);intro K hK;(conv=>whnf))|(with_reducible refine z0 ?_)))|((first|((with_reducible refine gV ?_);(((with_reducible refine NV.i64 ?s ?_);case s=>omega)))|((with_reducible refine gI ?_);(first|((with_reducible refine NIf.decY ?s ?_);case s=>assumption)|((with_reducible refine NIf.yes ?s ?_);case s=>rfl)))|((with_reducible refine gH ?_;refine NH.mk ?s ?_);case s=>(and_intros<;>first|with_reducible rfl|((with_reducible refine gOnes ?_);rfl)|((with_reducible refine gLen ?_);rfl)|omega))|((with_reducible refine gC ?_);(first|((with_reducible refine NCall.isF 51 ?_);refine NCall.pureE (ctop) ?_)|((with_reducible refine NCall.isF 52 ?_);refine NCall.subE [0] (c) rfl (by decide) rfl rfl ?_))))<;>(conv=>whnf))|((with_reducible refine gX ?_);(first|(with_reducible first|refine z3 ?_|refine z4 ?_|refine z5 ?_|refine z6 ?_)|((with_reducible refine z29 ?_);intro A B hA hB;(conv=>whnf))))|(with_reducible first|refine z1 ?_|refine z2 ?_|refine z9 ?_)|((intro _;skip)<;>(conv=>whnf))))
      all_goals first | (exfalso; omega) | skip
      all_goals
        rename_i v9
        refine st_round (v9, i + 1) (by show i + 1 ≤ T.toNat + 1; omega) (by show T.toNat + 1 - (i + 1) < T.toNat + 1 - i; omega) ?_ (MemFits.pre 3 ?_)
        · dsimp only
          rw [hlen]
          repeat (first|exact FitsSl.nil|refine FitsSl.any ?_|refine FitsSl.cons (Fit1.int (by first | rfl | omega)) ?_|refine FitsSl.cons (Fit1.same (by intro h; cases h) (by with_reducible rfl)) ?_)
        · simp only [autoM, List.take, hlen, hav]
          rfl
    · rw [decide_eq_false hE] at c
      rw [if_neg hE, List.append_nil] at hn
      rw [← hn]
      clear ca hnx hln
      (repeat' (first|(with_reducible first|(refine hK _ _ ?_;clear hK K)|(refine hA ?_;clear hA hB A B)|(refine hB ?_;clear hA hB A B))|((with_reducible refine gO ?_);(first|((with_reducible refine z25 ?_);intro K hK;(conv=>whnf))|(with_reducible refine z0 ?_)))|((first|((with_reducible refine gV ?_);(((with_reducible refine NV.i64 ?s ?_);case s=>omega)))|((with_reducible refine gI ?_);(first|((with_reducible refine NIf.decY ?s ?_);case s=>assumption)|((with_reducible refine NIf.no ?s ?_);case s=>rfl)))|((with_reducible refine gH ?_;refine NH.mk ?s ?_);case s=>(and_intros<;>with_reducible rfl))|((with_reducible refine gC ?_);(first|((with_reducible refine NCall.isF 51 ?_);refine NCall.pureE (ctop) ?_)|((with_reducible refine NCall.isF 52 ?_);refine NCall.subE [0] (c) rfl (by decide) rfl rfl ?_))))<;>(conv=>whnf))|((with_reducible refine gX ?_);(first|(with_reducible first|refine z3 ?_|refine z4 ?_|refine z5 ?_|refine z6 ?_)|((with_reducible refine z29 ?_);intro A B hA hB;(conv=>whnf))))|(with_reducible first|refine z1 ?_|refine z2 ?_|refine z9 ?_)))
      all_goals first | (exfalso; omega) | skip
      all_goals
        refine st_round (w, i + 1) (by show i + 1 ≤ T.toNat + 1; omega) (by show T.toNat + 1 - (i + 1) < T.toNat + 1 - i; omega) ?_ (MemFits.pre 3 rfl)
        dsimp only
        repeat (first|exact FitsSl.nil|refine FitsSl.any ?_|refine FitsSl.cons (Fit1.int (by first | rfl | omega)) ?_|refine FitsSl.cons (Fit1.same (by intro h; cases h) (by with_reducible rfl)) ?_)
  · have hE : i = T.toNat + 1 := by omega
    subst hE
    clear ca hnx
    (repeat' (first|(with_reducible first|(refine hK _ _ ?_;clear hK K)|(refine hB ?_;clear hA hB A B)|(refine hK _ ?_;clear hK K))|((with_reducible refine gO ?_);(first|((with_reducible refine z25 ?_);intro K hK;(conv=>whnf))|(with_reducible refine z0 ?_)))|((first|((with_reducible refine gI ?_);(((with_reducible refine NIf.decN ?s ?_);case s=>assumption)))|((with_reducible refine gC ?_;refine NCall.isF 51 ?_);refine NCall.pureE (ctop) ?_))<;>(conv=>whnf))|((with_reducible refine gX ?_);(first|(with_reducible first|refine z3 ?_|refine z4 ?_|refine z7 ?_|refine z8 ?_)|((with_reducible refine z29 ?_);intro A B hA hB;(conv=>whnf))))|(with_reducible first|refine z1 ?_|refine z2 ?_|refine z10 ?_|refine z11 ?_|refine z19 ?_)|((with_reducible refine gR ?_);((refine z31 rfl ?_);intro K hK;(conv=>whnf)))))
    all_goals first | (exfalso; omega) | skip
    all_goals exact ⟨w, rfl, MemFits.pick [0, 2] (by decide) rfl⟩
end Go.Proofs.YtngodakgbldlpaaGreatDoor
namespace Go.Proofs.YtngodakgbldlpaaGreatDoor
open Go.Sx
def TabF (F : Heap) : Prop := ∃ t fr, F.o 0 (.cells (Lib.pow10Tab.map fun z => Value.int .u64 z).toArray t fr)
theorem TabF.mono {F G : Heap} (h : F.le G) (hF : TabF F) : TabF G := by
  obtain ⟨t, fr, h1⟩ := hF
  exact ⟨t, fr, h.o _ _ h1⟩
theorem MemOk.heapO {F : Heap} {w : World} (h : MemOk [hpB F] w) {b : Nat} {o : Obj} (ho : F.o b o) : w.heap[b]? = some o :=
  (h.holds (hpB F) (by simp)).2.2 b o ho
theorem tab_is {F : Heap} (hF : TabF F) {w : World} (h : MemOk [hpB F] w) : Lib.TabIs Tryz.prog w "internal/strconv.uint64pow10" .u64 Lib.pow10Tab := by
  obtain ⟨t, fr, h1⟩ := hF
  have h2 := MemOk.heapO h h1
  have hg : Tryz.prog.globalNamed "internal/strconv.uint64pow10" = some 0 := by kernel_rfl
  unfold Lib.TabIs World.var?
  rw [hg]
  simp only [Option.bind_some, h2]
theorem itoa_c (F : Heap) (hF : TabF F) (n : Int) (hn : -9223372036854775808 ≤ n ∧ n ≤ 9223372036854775807) : NCall Tryz.prog 55 [.int .i64 n] [hpB F] fun r m => r = .str (Lib.itoa n) ∧ m = [hpB F] := by
  refine ncall_below (Go.Sx.enters_of Tryz.func55 rfl (by decide)) fun w hw => ?_
  refine (Tryz.strconv_Itoa n hn.1 hn.2 w (tab_is hF hw)).mono fun e w' ⟨h1, k, os, h2⟩ => ?_
  subst h2
  refine ⟨h1, rfl, rfl, rfl, by simp [Sort.grow, World.drewN], fun b hb => ?_⟩
  simp [Sort.grow, World.drewN, Array.getElem?_append_left hb]
def strV (x : List UInt8) : List Value := [.string ⟨x.toArray⟩]
theorem join_c (F : Heap) (v : Value) (l : List (List UInt8)) (sep : List UInt8) (hv : RowF F 1 (fun x vs => vs = strV x) v l) (hl : (Lib.join l sep).length ≤ 140737488355328) (hn : l.length ≤ 140737488355328) :
    NCall Tryz.prog 56 [.hs v l.length, .str sep] [hpB F] fun r m => r = .str (Lib.join l sep) ∧ m = [hpB F] := by
  have hen : ∀ (us : Array Value) (w : World), (callFunc 56 us).run Tryz.prog w = .ok (.enter 56 us) w := Go.Sx.enters_of Tryz.func56 rfl (by decide)
  obtain ⟨⟨A, cap, rfl, hcap, hA⟩, hat⟩ := hv
  cases l with
  | nil =>
    refine ncall_below hen fun w hw => ?_
    refine (Tryz.strings_Join_none A cap ⟨sep.toArray⟩ w).mono fun e w' ⟨h1, h2⟩ => ?_
    subst h2
    exact ⟨h1, rfl, rfl, rfl, Nat.le_refl _, fun _ _ => rfl⟩
  | cons x l =>
    refine ncall_below hen fun w hw => ?_
    have hc : ∀ a u, F.c a u → a.block < w.heap.size ∧ w.cell? a = some u := (hw.holds (hpB F) (by simp)).2.1
    cases A with
    | none => have := hA rfl; simp at hcap; omega
    | some a =>
      obtain ⟨vs, rfl, _, h0⟩ := hat 0 x rfl
      have h00 := hc _ _ h0.1
      have hsp : a.spot = none := by
        have h1 := World.cell?_spot h00.2
        simpa [addrOf, Addr.add] using h1
      obtain ⟨bk, o, sp⟩ := a
      dsimp only at hsp
      subst hsp
      have hm : ((x :: l).map fun y => (⟨y.toArray⟩ : ByteArray)).map (·.data.toList) = x :: l := by simp [Function.comp_def]
      have hj := Tryz.strings_Join bk o cap ((x :: l).map fun y => ⟨y.toArray⟩) ⟨sep.toArray⟩ w (fun j y hy => by
        rw [List.getElem?_map] at hy
        cases hx : (x :: l)[j]? with
        | none => rw [hx] at hy; cases hy
        | some z =>
          rw [hx] at hy
          injection hy with hy
          subst hy
          obtain ⟨vs, rfl, _, h1⟩ := hat j z hx
          have := (hc _ _ h1.1).2
          by_cases hj0 : j = 0
          · subst hj0; simpa [addrOf, Addr.add] using this
          · simpa [addrOf, Addr.add, hj0] using this) (by have := h00.1; rw [block_of_add] at this; exact this) (by simpa using hn) (by simpa using hcap) (by rw [hm]; simpa using hl)
      rw [hm] at hj
      simp only [List.length_map] at hj
      refine hj.mono fun e w' ⟨h1, h2⟩ => ?_
      exact ⟨by simpa [AV.den] using h1, h2.os, h2.tape, h2.output, h2.size, h2.block⟩
def strAV (l : List (List UInt8)) : List AV := l.map .str
theorem strAV_den (l : List (List UInt8)) : denL (strAV l) = l.flatMap strV := by
  induction l with
  | nil => rfl
  | cons x l ih => simp only [strAV, List.map_cons, List.flatMap_cons, strV, denL, AV.den] at *; rw [ih]; rfl
theorem strAV_len (l : List (List UInt8)) : (strAV l).length = l.length := by simp [strAV]
theorem join_own (F : Heap) (v : Value) (l : List (List UInt8)) (sep : List UInt8) (t : TypeId) (m : List Blk) (hm : MemFits m [hpB F, ⟨addrOf v, strAV l, .row v t 1 l.length⟩]) (hl : (Lib.join l sep).length ≤ 140737488355328) (hn : l.length ≤ 140737488355328) (i : Nat) :
    NCall Tryz.prog 56 [.sl i v l.length, .str sep] m fun r m' => r = .str (Lib.join l sep) ∧ m' = m :=
  NCall.frozen (args' := [.hs v l.length, .str sep]) strV (join_c noHeap (.slice none 0 0) [] [] RowF.nil (by decide) (by decide)) rfl hm rfl (strAV_den l) (fun _ _ => rfl) fun G _ hr =>
    (join_c G v l sep hr hl hn).mono fun _ _ h => ⟨h.1, rfl⟩
end Go.Proofs.YtngodakgbldlpaaGreatDoor
