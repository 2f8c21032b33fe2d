import Derived.Test.YtngodakgbldlpaaGreatDoorJ5
import Derived.Test.YtngodakgbldlpaaGreatDoorJ14
namespace Go.Proofs.YtngodakgbldlpaaGreatDoor
open Go.Sx
set_option maxRecDepth 20000
set_option linter.unusedSimpArgs false
set_option linter.unusedVariables false
set_option maxHeartbeats 4000000
set_option linter.unusedVariables false
namespace Pd
def At.av (x : At) : List AV := [.int .i64 x.sw, .int .i64 x.port, .int .i64 x.p0, .int .i64 x.p1, .int .i64 x.p2, .int .i64 x.p3]
def At.pk (x : At) : List AV := [.int .i64 x.p0, .int .i64 x.p1, .int .i64 x.p2, .int .i64 x.p3]
theorem any_not (x : At) (l : List T) : (l.any fun p => !hits x p) = !hitsAll x l := by
  induction l with
  | nil => rfl
  | cons p l ih => rw [List.any_cons, ih, hitsAll]; cases hits x p <;> simp
theorem any_hits (x : At) (l : List T) : (l.any fun p => hits x p) = !hitsNone x l := by
  induction l with
  | nil => rfl
  | cons p l ih => rw [List.any_cons, ih, hitsNone]; cases hits x p <;> simp
theorem hits_1 (x : At) (f v : Int) (l : List T) : hits x (.mk 1 f v l) = true := by rw [hits.eq_def]; simp
theorem hits_3 (x : At) (f v : Int) (l : List T) : hits x (.mk 3 f v l) = decide ((0 ≤ f ∧ f ≤ 5) ∧ get f x = v) := by rw [hits.eq_def]; simp
theorem hits_4n (x : At) (f v : Int) : hits x (.mk 4 f v []) = false := by rw [hits.eq_def]; simp
theorem hits_4 (x : At) (f v : Int) (q : T) (l : List T) : hits x (.mk 4 f v (q :: l)) = !hits x q := by rw [hits.eq_def]; simp [hits1]
theorem hits_5 (x : At) (f v : Int) (l : List T) : hits x (.mk 5 f v l) = hitsAll x l := by rw [hits.eq_def]; simp
theorem hits_6 (x : At) (f v : Int) (l : List T) : hits x (.mk 6 f v l) = !hitsNone x l := by rw [hits.eq_def]; simp
theorem hits_no (x : At) (k f v : Int) (l : List T) (h : ¬ (k = 1 ∨ k = 3 ∨ k = 4 ∨ k = 5 ∨ k = 6)) : hits x (.mk k f v l) = false := by
  rw [hits.eq_def]
  simp only [not_or] at h
  simp [h.1, h.2.1, h.2.2.1, h.2.2.2.1, h.2.2.2.2]
def cnt (x : At) (l : List T) : Nat := (l.filter fun p => hits x p).length
end Pd
def PdAt (F : Heap) (b : Addr) (x : Pd.At) : Prop := F.c (b.add 0) (.int .i64 x.sw) ∧ F.c (b.add 1) (.int .i64 x.port) ∧ F.c (b.add 2) (.int .i64 x.p0) ∧ F.c (b.add 3) (.int .i64 x.p1) ∧ F.c (b.add 4) (.int .i64 x.p2) ∧ F.c (b.add 5) (.int .i64 x.p3)
theorem hits26_c : ∀ (n : Nat) (F : Heap) (x : Pd.At) (p : Pd.T) (u : Value), Pd.size p ≤ n → Pd.size p ≤ 4611686018427387904 → Pd.Row F u p.l →
    NCall Tryz.prog 87 [.agg x.av, .agg (Pd.cs p u)] [hpB F] fun r m => r = .bool (Pd.hits x p) ∧ m = [hpB F]
  | 0, F, x, p, u, hn, _, _ => absurd (Pd.size_pos p) (by omega)
  | n + 1, F, x, ⟨k, f, v, l⟩, u, hn, hs, hu => by
    refine NCall.fits (K := fun r m => r = .bool (Pd.hits x (.mk k f v l)) ∧ MemFits m [hpB F]) ?_ fun r m' h => ⟨r, _, rfl, h.2, h.1, rfl⟩
    have hu : Pd.Row F u l := hu
    have hok := hu.ok
    have hll := Pd.length_le l
    have e2 : Pd.size (.mk k f v l) = 1 + Pd.sizeL l := by rw [Pd.size]
    have ih : ∀ G y, y ∈ l → ∀ A, Pd.Row G A y.l → NCall Tryz.prog 87 [.agg x.av, .agg (Pd.cs y A)] [hpB G] fun r m => r = .bool (Pd.hits x y) ∧ m = [hpB G] := fun G y hy A hA => hits26_c n G x y A (by have := Pd.size_lt (k := k) (f := f) (v := v) hy; omega) (by have := Pd.size_lt (k := k) (f := f) (v := v) hy; omega) hA
    have cor := contains26_c F (fun y => Pd.hits x y) u l hu (by omega) 87 [.agg x.av] [] fun y hy A hA => ih F y hy A hA
    rw [Pd.any_hits] at cor
    have cand : ∀ b : Addr, NCall Tryz.prog 113 [.hs u l.length, .fn 114 [] [.ptr 1 b 0]] [hpB F, ⟨b, x.av, .var 122⟩] fun r m => r = .bool (!Pd.hitsAll x l) ∧ m = [hpB F, ⟨b, x.av, .var 122⟩] := fun b => by
      have hle : F.le (addF F b (denL x.av)) := addF.old
      have hat : PdAt (addF F b (denL x.av)) b x := by
        have := addF.new (F := F) (a := b) (vs := denL x.av)
        obtain ⟨c0, c1, c2, c3, c4, c5, _⟩ := this
        exact ⟨c0, c1, c2, c3, c4, c5⟩
      obtain ⟨c0, c1, c2, c3, c4, c5⟩ := hat
      have c := contains26_c (addF F b (denL x.av)) (fun y => !Pd.hits x y) u l (Pd.Row.mono hle hu) (by omega) 114 [] [.hp b 0] fun y hy A hA => by
        have cy := ih _ y hy A hA
        generalize addF F b (denL x.av) = G at *
        refine NCall.fits (K := fun r m => r = .bool (!Pd.hits x y) ∧ MemFits m [hpB G]) ?_ fun r m' h => ⟨r, _, rfl, h.2, h.1, rfl⟩
        generalize Pd.hits x y = hb at *
        obtain ⟨yk, yf, yv, yl⟩ := y
        rw [pd_cs] at *
        obtain ⟨sw, port, p0, p1, p2, p3⟩ := x
        simp only [Pd.At.av] at *
        refine ncall_of Tryz.func114 rfl (by decide) ?_
        (repeat' (first|(with_reducible first|(refine hK _ _ ?_;clear hK K)|(refine hK _ ?_;clear hK K))|((with_reducible refine gO ?_);(first|((with_reducible refine z25 ?_);intro K hK;(conv=>whnf))|(with_reducible refine z0 ?_)))|((first|((with_reducible refine gH ?_;refine NH.mk ?s ?_);case s=>(and_intros<;>with_reducible rfl))|((with_reducible refine gC ?_;refine NCall.isF 87 ?_);refine NCall.subE [0] (cy) rfl (by decide) rfl rfl ?_)|(with_reducible refine NLd.of (by with_reducible assumption) ?_))<;>(conv=>whnf))|(with_reducible refine gX ?_;first|refine z3 ?_|refine z4 ?_|refine z8 ?_)|(with_reducible first|refine z1 ?_|refine z2 ?_)|((with_reducible refine gR ?_);((refine z31 rfl ?_);intro K hK;(conv=>whnf)))|((with_reducible refine gF ?_);((refine z33 rfl ?_);intro K hK;(conv=>whnf)))|((intro _;skip)<;>(conv=>whnf))))
        all_goals exact ⟨rfl, MemFits.pre 1 rfl⟩
      rw [Pd.any_not] at c
      exact NCall.keep c rfl MemFits.freezeVar rfl fun r mL' h => ⟨r, rfl, h.1, rfl⟩
    have hget := get26_c f x
    clear ih
    have ih0 : ∀ y, l[0]? = some y → ∀ A, Pd.Row F A y.l → NCall Tryz.prog 87 [.agg x.av, .agg (Pd.cs y A)] [hpB F] fun r m => r = .bool (Pd.hits x y) ∧ m = [hpB F] := fun y hy A hA => hits26_c n F x y A (by have := Pd.size_lt (k := k) (f := f) (v := v) (List.mem_of_getElem? hy); omega) (by have := Pd.size_lt (k := k) (f := f) (v := v) (List.mem_of_getElem? hy); omega) hA
    refine ncall_of Tryz.func87 rfl (by decide) ?_
    rw [pd_cs]
    by_cases h1 : k = 1
    · subst h1
      rw [Pd.hits_1]
      obtain ⟨sw, port, p0, p1, p2, p3⟩ := x
      simp only [Pd.At.av] at *
      (repeat' (first|(with_reducible first|(refine hK _ _ ?_;clear hK K)|(refine hA ?_;clear hA hB A B)|(refine hK _ ?_;clear hK K))|((with_reducible refine gO ?_);(first|((with_reducible refine z25 ?_);intro K hK;(conv=>whnf))|(with_reducible refine z0 ?_)))|((first|(with_reducible refine gI ?_;refine NIf.decY ?s ?_;case s=>rfl)|(with_reducible refine gN ?_;refine NN.a5 ?_)|((with_reducible refine gH ?_;refine NH.mk ?s ?_);case s=>(and_intros<;>with_reducible rfl)))<;>(conv=>whnf))|((with_reducible refine gX ?_);(first|(with_reducible first|refine z3 ?_|refine z4 ?_|refine z5 ?_|refine z8 ?_)|((with_reducible refine z29 ?_);intro A B hA hB;(conv=>whnf))))|(with_reducible first|refine z1 ?_|refine z2 ?_|refine z12 ?_|refine z13 ?_)|((with_reducible refine gR ?_);((refine z31 rfl ?_);intro K hK;(conv=>whnf)))|((with_reducible refine gF ?_);((refine z33 rfl ?_);intro K hK;(conv=>whnf)))|((intro _;skip)<;>(conv=>whnf))))
      all_goals exact ⟨rfl, MemFits.pre 1 rfl⟩
    by_cases h3 : k = 3
    · subst h3
      rw [Pd.hits_3]
      clear cor cand ih0
      generalize hgv : Pd.get f x = gv at *
      obtain ⟨sw, port, p0, p1, p2, p3⟩ := x
      simp only [Pd.At.av] at *
      by_cases hr : 0 ≤ f ∧ f ≤ 5
      · by_cases hv : gv = v
        · rw [decide_eq_true ⟨hr, hv⟩]
          subst hv
          (repeat' (first|(with_reducible first|(refine hK _ _ ?_;clear hK K)|(refine hA ?_;clear hA hB A B)|(refine hB ?_;clear hA hB A B)|(refine hK _ ?_;clear hK K))|((with_reducible refine gO ?_);(first|((with_reducible refine z25 ?_);intro K hK;(conv=>whnf))|(with_reducible refine z0 ?_)))|((first|((with_reducible refine gI ?_);(first|(((with_reducible refine NIf.yes ?s ?_);case s=>(simp ;done)))|(((with_reducible refine NIf.no ?s ?_);case s=>(simp ;done)))|((with_reducible refine NIf.decY ?s ?_);case s=>omega)))|(with_reducible refine gN ?_;refine NN.a5 ?_)|((with_reducible refine gH ?_;refine NH.mk ?s ?_);case s=>(and_intros<;>first|with_reducible rfl|((with_reducible refine gKept ?_);exact rfl)|rfl))|((with_reducible refine gC ?_;refine NCall.isF 112 ?_);refine NCall.pureE (hget) ?_))<;>(conv=>whnf))|(with_reducible refine gNRK ?_;refine st_ordSout ?_)|((with_reducible refine gNOK ?_);(first|(refine st_ordK1 rfl (by kernel_rfl) rfl ?_; intro K hK; (conv=>whnf))|(refine st_ordK1g rfl (by kernel_rfl) rfl ?_; intro K hK; (conv=>whnf))|(refine st_ordK0 rfl (by kernel_rfl) ?_)|(refine st_ordKA rfl rfl (by kernel_rfl) (by intro h; cases h) ?_)))|((with_reducible refine gNEK ?_);(first|(refine st_eachKg rfl ?_ ?_; (intro K hK; (conv=>whnf)))|exact st_eachK0))|((with_reducible refine gX ?_);(first|(refine st_orderS [] rfl rfl (by kernel_rfl) _ rfl ?_)|(with_reducible first|refine z3 ?_|refine z4 ?_|refine z5 ?_|refine z8 ?_)|((with_reducible refine z29 ?_);intro A B hA hB;(conv=>whnf))))|(with_reducible first|refine z1 ?_|refine z2 ?_|refine z12 ?_|refine z13 ?_)|((with_reducible refine gR ?_);((refine z31 rfl ?_);intro K hK;(conv=>whnf)))|((with_reducible refine gF ?_);((refine z33 rfl ?_);intro K hK;(conv=>whnf)))|((intro _;skip)<;>(conv=>whnf))))
          all_goals exact ⟨by simp, MemFits.pre 1 rfl⟩
        · rw [decide_eq_false (fun h => hv h.2)]
          (repeat' (first|(with_reducible first|(refine hK _ _ ?_;clear hK K)|(refine hA ?_;clear hA hB A B)|(refine hB ?_;clear hA hB A B)|(refine hK _ ?_;clear hK K))|((with_reducible refine gO ?_);(first|((with_reducible refine z25 ?_);intro K hK;(conv=>whnf))|(with_reducible refine z0 ?_)))|((first|((with_reducible refine gI ?_);(first|(((with_reducible refine NIf.yes ?s ?_);case s=>(simp [hv];done)))|(((with_reducible refine NIf.no ?s ?_);case s=>(simp [hv];done)))|((with_reducible refine NIf.decY ?s ?_);case s=>omega)))|(with_reducible refine gN ?_;refine NN.a5 ?_)|((with_reducible refine gH ?_;refine NH.mk ?s ?_);case s=>(and_intros<;>first|with_reducible rfl|((with_reducible refine gKept ?_);exact rfl)|rfl))|((with_reducible refine gC ?_;refine NCall.isF 112 ?_);refine NCall.pureE (hget) ?_))<;>(conv=>whnf))|(with_reducible refine gNRK ?_;refine st_ordSout ?_)|((with_reducible refine gNOK ?_);(first|(refine st_ordK1 rfl (by kernel_rfl) rfl ?_; intro K hK; (conv=>whnf))|(refine st_ordK1g rfl (by kernel_rfl) rfl ?_; intro K hK; (conv=>whnf))|(refine st_ordK0 rfl (by kernel_rfl) ?_)|(refine st_ordKA rfl rfl (by kernel_rfl) (by intro h; cases h) ?_)))|((with_reducible refine gNEK ?_);(first|(refine st_eachKg rfl ?_ ?_; (intro K hK; (conv=>whnf)))|exact st_eachK0))|((with_reducible refine gX ?_);(first|(refine st_orderS [] rfl rfl (by kernel_rfl) _ rfl ?_)|(with_reducible first|refine z3 ?_|refine z4 ?_|refine z5 ?_|refine z8 ?_)|((with_reducible refine z29 ?_);intro A B hA hB;(conv=>whnf))))|(with_reducible first|refine z1 ?_|refine z2 ?_|refine z12 ?_|refine z13 ?_)|((with_reducible refine gR ?_);((refine z31 rfl ?_);intro K hK;(conv=>whnf)))|((with_reducible refine gF ?_);((refine z33 rfl ?_);intro K hK;(conv=>whnf)))|((intro _;skip)<;>(conv=>whnf))))
          all_goals exact ⟨by simp [hv], MemFits.pre 1 rfl⟩
      · rw [decide_eq_false (fun h => hr h.1)]
        (repeat' (first|(with_reducible first|(refine hK _ _ ?_;clear hK K)|(refine hA ?_;clear hA hB A B)|(refine hB ?_;clear hA hB A B)|(refine hK _ ?_;clear hK K))|((with_reducible refine gO ?_);(first|((with_reducible refine z25 ?_);intro K hK;(conv=>whnf))|(with_reducible refine z0 ?_)))|((first|((with_reducible refine gI ?_);(first|((with_reducible refine NIf.decY ?s ?_);case s=>first|with_reducible rfl|assumption)|((with_reducible refine NIf.decN ?s ?_);case s=>first|assumption|omega)|((with_reducible refine NIf.no ?s ?_);case s=>rfl)|(with_reducible refine NIf.dec (fun _=>?_) (fun _=>?_))))|(with_reducible refine gN ?_;refine NN.a5 ?_)|((with_reducible refine gH ?_;refine NH.mk ?s ?_);case s=>(and_intros<;>first|with_reducible rfl|rfl)))<;>(conv=>whnf))|(with_reducible refine gNRK ?_;refine st_ordSout ?_)|((with_reducible refine gNOK ?_);(first|(refine st_ordK1 rfl (by kernel_rfl) rfl ?_; intro K hK; (conv=>whnf))|(refine st_ordK1g rfl (by kernel_rfl) rfl ?_; intro K hK; (conv=>whnf))|(refine st_ordK0 rfl (by kernel_rfl) ?_)|(refine st_ordKA rfl rfl (by kernel_rfl) (by intro h; cases h) ?_)))|((with_reducible refine gNEK ?_);(first|(refine st_eachKg rfl ?_ ?_; (intro K hK; (conv=>whnf)))|exact st_eachK0))|((with_reducible refine gX ?_);(first|(refine st_orderS [] rfl rfl (by kernel_rfl) _ rfl ?_)|(with_reducible first|refine z3 ?_|refine z4 ?_|refine z5 ?_|refine z8 ?_)|((with_reducible refine z29 ?_);intro A B hA hB;(conv=>whnf))))|(with_reducible first|refine z1 ?_|refine z2 ?_|refine z12 ?_|refine z13 ?_)|((with_reducible refine gR ?_);((refine z31 rfl ?_);intro K hK;(conv=>whnf)))|((with_reducible refine gF ?_);((refine z33 rfl ?_);intro K hK;(conv=>whnf)))|((intro _;skip)<;>(conv=>whnf))))
        all_goals exact ⟨by simp, MemFits.pre 1 rfl⟩
    by_cases h4 : k = 4
    · subst h4
      clear cor cand
      cases l with
      | nil =>
        rw [Pd.hits_4n]
        obtain ⟨sw, port, p0, p1, p2, p3⟩ := x
        simp only [Pd.At.av, List.length_nil] at *
        (repeat' (first|(with_reducible first|(refine hK _ _ ?_;clear hK K)|(refine hA ?_;clear hA hB A B)|(refine hB ?_;clear hA hB A B)|(refine hK _ ?_;clear hK K))|((with_reducible refine gO ?_);(first|((with_reducible refine z25 ?_);intro K hK;(conv=>whnf))|(with_reducible refine z0 ?_)))|((first|((with_reducible refine gI ?_);(first|(with_reducible refine NIf.decY ?s ?_;case s=>rfl)|((with_reducible refine NIf.decN ?s ?_);case s=>first|assumption|omega)))|(with_reducible refine gN ?_;refine NN.a5 ?_)|((with_reducible refine gH ?_;refine NH.mk ?s ?_);case s=>(and_intros<;>first|with_reducible rfl|omega|rfl)))<;>(conv=>whnf))|(with_reducible refine gNRK ?_;refine st_ordSout ?_)|((with_reducible refine gNOK ?_);(first|(refine st_ordK1 rfl (by kernel_rfl) rfl ?_; intro K hK; (conv=>whnf))|(refine st_ordK1g rfl (by kernel_rfl) rfl ?_; intro K hK; (conv=>whnf))|(refine st_ordK0 rfl (by kernel_rfl) ?_)|(refine st_ordKA rfl rfl (by kernel_rfl) (by intro h; cases h) ?_)))|((with_reducible refine gNEK ?_);(first|(refine st_eachKg rfl ?_ ?_; (intro K hK; (conv=>whnf)))|exact st_eachK0))|((with_reducible refine gX ?_);(first|(refine st_orderS [] rfl rfl (by kernel_rfl) _ rfl ?_)|(with_reducible first|refine z3 ?_|refine z4 ?_|refine z5 ?_|refine z8 ?_)|((with_reducible refine z29 ?_);intro A B hA hB;(conv=>whnf))))|(with_reducible first|refine z1 ?_|refine z2 ?_|refine z12 ?_|refine z13 ?_)|((with_reducible refine gR ?_);((refine z31 rfl ?_);intro K hK;(conv=>whnf)))|((with_reducible refine gF ?_);((refine z33 rfl ?_);intro K hK;(conv=>whnf)))|((intro _;skip)<;>(conv=>whnf))))
        all_goals first
          | exact ⟨rfl, MemFits.pre 1 rfl⟩
          | (exfalso; omega)
      | cons q l =>
        rw [Pd.hits_4]
        obtain ⟨A, cap, hA, c0, c1, c2, c3⟩ := hu.get (i := 0) (x := q) rfl
        have c := ih0 q rfl _ hA
        clear ih0
        generalize Pd.hits x q = hb at *
        simp only [Pd.cs] at c
        generalize hln : (q :: l).length = ln at *
        have hpos : 0 < ln := by rw [← hln]; simp
        obtain ⟨sw, port, p0, p1, p2, p3⟩ := x
        simp only [Pd.At.av] at *
        (repeat' (first|(with_reducible first|(refine hK _ _ ?_;clear hK K)|(refine hA ?_;clear hA hB A B)|(refine hB ?_;clear hA hB A B)|(refine hK _ ?_;clear hK K))|((with_reducible refine gO ?_);(first|((with_reducible refine z25 ?_);intro K hK;(conv=>whnf))|(with_reducible refine z0 ?_)))|((first|((with_reducible refine gI ?_);(first|((with_reducible refine NIf.decY ?s ?_);case s=>first|with_reducible rfl|omega)|((with_reducible refine NIf.decN ?s ?_);case s=>assumption)))|(with_reducible refine gN ?_;first|refine NN.lit ?_|refine NN.a5 ?_|refine NN.a6 ?_)|((with_reducible refine gH ?_;refine NH.mk ?s ?_);case s=>(and_intros<;>first|with_reducible rfl|((with_reducible refine gKept ?_);exact rfl)|omega|rfl))|((with_reducible refine gC ?_;refine NCall.isF 87 ?_);refine NCall.subE [0] (c) rfl (by decide) rfl rfl ?_)|(with_reducible refine NLd.of (by with_reducible assumption) ?_))<;>(conv=>whnf))|(with_reducible refine gNRK ?_;refine st_ordSout ?_)|((with_reducible refine gNOK ?_);(first|(refine st_ordK1 rfl (by kernel_rfl) rfl ?_; intro K hK; (conv=>whnf))|(refine st_ordK1g rfl (by kernel_rfl) rfl ?_; intro K hK; (conv=>whnf))|(refine st_ordK0 rfl (by kernel_rfl) ?_)|(refine st_ordKA rfl rfl (by kernel_rfl) (by intro h; cases h) ?_)))|((with_reducible refine gNEK ?_);(first|(refine st_eachKg rfl ?_ ?_; (intro K hK; (conv=>whnf)))|exact st_eachK0))|((with_reducible refine gX ?_);(first|(refine st_orderS [] rfl rfl (by kernel_rfl) _ rfl ?_)|(with_reducible first|refine z3 ?_|refine z4 ?_|refine z5 ?_|refine z8 ?_)|((with_reducible refine z29 ?_);intro A B hA hB;(conv=>whnf))))|(with_reducible first|refine z1 ?_|refine z2 ?_|refine z12 ?_|refine z13 ?_)|((with_reducible refine gR ?_);((refine z31 rfl ?_);intro K hK;(conv=>whnf)))|((with_reducible refine gF ?_);((refine z33 rfl ?_);intro K hK;(conv=>whnf)))|((intro _;skip)<;>(conv=>whnf))))
        all_goals first
          | exact ⟨rfl, MemFits.pre 1 rfl⟩
          | (exfalso; omega)
    by_cases h5 : k = 5
    · subst h5
      rw [Pd.hits_5]
      clear cor ih0
      generalize Pd.hitsAll x l = hb at *
      obtain ⟨sw, port, p0, p1, p2, p3⟩ := x
      simp only [Pd.At.av] at *
      (repeat' (first|(with_reducible first|(refine hK _ _ ?_;clear hK K)|(refine hA ?_;clear hA hB A B)|(refine hB ?_;clear hA hB A B)|(refine hK _ ?_;clear hK K))|((with_reducible refine gO ?_);(first|((with_reducible refine z25 ?_);intro K hK;(conv=>whnf))|(with_reducible refine z0 ?_)))|((first|((with_reducible refine gI ?_);(first|(with_reducible refine NIf.decY ?s ?_;case s=>rfl)|((with_reducible refine NIf.decN ?s ?_);case s=>assumption)))|(with_reducible refine gN ?_;refine NN.a5 ?_)|((with_reducible refine gH ?_;refine NH.mk ?s ?_);case s=>(and_intros<;>with_reducible rfl))|((with_reducible refine gC ?_;refine NCall.isF 113 ?_);refine NCall.subE [0, 1] (cand _) rfl (by decide) rfl rfl ?_))<;>(conv=>whnf))|((with_reducible refine gX ?_);(first|(with_reducible first|refine z3 ?_|refine z4 ?_|refine z5 ?_|refine z8 ?_)|((with_reducible refine z29 ?_);intro A B hA hB;(conv=>whnf))))|(with_reducible first|refine z1 ?_|refine z2 ?_|refine z12 ?_|refine z13 ?_)|((with_reducible refine gR ?_);((refine z31 rfl ?_);intro K hK;(conv=>whnf)))|((with_reducible refine gF ?_);((refine z33 rfl ?_);intro K hK;(conv=>whnf)))|((intro _;skip)<;>(conv=>whnf))))
      all_goals exact ⟨by cases hb <;> rfl, MemFits.pre 1 rfl⟩
    by_cases h6 : k = 6
    · subst h6
      rw [Pd.hits_6]
      clear cand ih0
      generalize Pd.hitsNone x l = hb at *
      obtain ⟨sw, port, p0, p1, p2, p3⟩ := x
      simp only [Pd.At.av] at *
      (repeat' (first|(with_reducible first|(refine hK _ _ ?_;clear hK K)|(refine hA ?_;clear hA hB A B)|(refine hB ?_;clear hA hB A B)|(refine hK _ ?_;clear hK K))|((with_reducible refine gO ?_);(first|((with_reducible refine z25 ?_);intro K hK;(conv=>whnf))|(with_reducible refine z0 ?_)))|((first|((with_reducible refine gI ?_);(first|(with_reducible refine NIf.decY ?s ?_;case s=>rfl)|((with_reducible refine NIf.decN ?s ?_);case s=>assumption)))|(with_reducible refine gN ?_;refine NN.a5 ?_)|((with_reducible refine gH ?_;refine NH.mk ?s ?_);case s=>(and_intros<;>with_reducible rfl))|((with_reducible refine gC ?_;refine NCall.isF 113 ?_);refine NCall.subE [0] (cor) rfl (by decide) rfl rfl ?_))<;>(conv=>whnf))|((with_reducible refine gX ?_);(first|(with_reducible first|refine z3 ?_|refine z4 ?_|refine z5 ?_|refine z8 ?_)|((with_reducible refine z29 ?_);intro A B hA hB;(conv=>whnf))))|(with_reducible first|refine z1 ?_|refine z2 ?_|refine z12 ?_|refine z13 ?_)|((with_reducible refine gR ?_);((refine z31 rfl ?_);intro K hK;(conv=>whnf)))|((with_reducible refine gF ?_);((refine z33 rfl ?_);intro K hK;(conv=>whnf)))|((intro _;skip)<;>(conv=>whnf))))
      all_goals exact ⟨rfl, MemFits.pre 1 rfl⟩
    rw [Pd.hits_no x k f v l (by omega)]
    clear cor cand ih0
    obtain ⟨sw, port, p0, p1, p2, p3⟩ := x
    simp only [Pd.At.av] at *
    (repeat' (first|(with_reducible first|(refine hK _ _ ?_;clear hK K)|(refine hB ?_;clear hA hB A B)|(refine hK _ ?_;clear hK K))|((with_reducible refine gO ?_);(first|((with_reducible refine z25 ?_);intro K hK;(conv=>whnf))|(with_reducible refine z0 ?_)))|((first|((with_reducible refine gI ?_);(((with_reducible refine NIf.decN ?s ?_);case s=>assumption)))|(with_reducible refine gN ?_;refine NN.a5 ?_)|((with_reducible refine gH ?_;refine NH.mk ?s ?_);case s=>(and_intros<;>with_reducible rfl)))<;>(conv=>whnf))|((with_reducible refine gX ?_);(first|(with_reducible first|refine z3 ?_|refine z4 ?_|refine z5 ?_|refine z6 ?_|refine z8 ?_)|((with_reducible refine z29 ?_);intro A B hA hB;(conv=>whnf))))|(with_reducible first|refine z1 ?_|refine z2 ?_|refine z9 ?_)|((with_reducible refine gR ?_);((refine z31 rfl ?_);intro K hK;(conv=>whnf)))|((with_reducible refine gF ?_);((refine z33 rfl ?_);intro K hK;(conv=>whnf)))|((intro _;skip)<;>(conv=>whnf))))
    all_goals first
      | exact ⟨rfl, MemFits.pre 1 rfl⟩
      | (exfalso; omega)
end Go.Proofs.YtngodakgbldlpaaGreatDoor
namespace Go.Sx
theorem NCall.rowPre {P : Program} {f : FuncId} {args args' : List AV} {F : Heap} {t : TypeId} {K : AV → List Blk → Prop} (h : NCall P f args' [hpB F, ⟨⟨0, 0, none⟩, [], .row (.slice none 0 0) t 1 0⟩] K) (hargs : denL args' = denL args) : NCall P f args [hpB F] K :=
  NCall.pre h hargs (MemFits.nilRow [hpB F] t 1)
end Go.Sx
namespace Go.Proofs.YtngodakgbldlpaaGreatDoor
open Go.Sx
set_option maxRecDepth 20000
set_option linter.unusedSimpArgs false
set_option linter.unusedVariables false
set_option maxHeartbeats 4000000
set_option linter.unusedVariables false
namespace Pd
def oncer (p : Int) : List Int → List Int
  | [] => []
  | y :: l => (if y ≠ p then [y] else []) ++ oncer y l
theorem once_cons : ∀ (l : List Int) (x : Int), once (x :: l) = x :: oncer x l
  | [], x => rfl
  | y :: l, x => by
    rw [once, once_cons l y, oncer]
    split
    · rename_i h; subst h; simp
    · rename_i h; rw [if_pos (fun e => h e.symm)]; rfl
theorem oncer_eq : ∀ (l : List Int) (p : Int), ((List.range l.length).filter fun j => decide ((p :: l)[j + 1]! ≠ (p :: l)[j]!)).map (fun j => (p :: l)[j + 1]!) = oncer p l
  | [], p => rfl
  | y :: l, p => by
    have ih := oncer_eq l y
    rw [List.length_cons, List.range_succ_eq_map, List.filter_cons, List.filter_map, oncer, ← ih]
    have e1 : ((fun j => decide ((p :: y :: l)[j + 1]! ≠ (p :: y :: l)[j]!)) ∘ Nat.succ) = fun j => decide ((y :: l)[j + 1]! ≠ (y :: l)[j]!) := by
      funext j
      simp [Function.comp]
    rw [e1]
    by_cases h : y = p
    · subst h
      simp [Function.comp_def]
    · simp [h, Function.comp_def]
theorem comp_once (l : List Int) : Srt.comp l = once l := by
  unfold Srt.comp Go.Lib.compact Go.Lib.compactUpTo
  cases l with
  | nil => rfl
  | cons x l =>
    rw [once_cons, ← oncer_eq, List.length_cons, List.range_succ_eq_map, List.filter_cons, List.filter_map]
    have e1 : (Go.Lib.keeps (x :: l).toArray ∘ Nat.succ) = fun j => decide ((x :: l)[j + 1]! ≠ (x :: l)[j]!) := by
      funext j
      simp [Function.comp, Go.Lib.keeps]
    rw [e1]
    simp [Go.Lib.keeps, Function.comp_def]
theorem values_comp (f : Int) (p : T) : Srt.comp (Srt.sort (vals f p)) = values f p := comp_once _
end Pd
theorem Hits26_c (F : Heap) (x : Pd.At) (p : Pd.T) (u : Value) (hs : Pd.size p ≤ 4611686018427387904) (hu : Pd.Row F u p.l) :
    NCall Tryz.prog 61 [.agg (Pd.cs p u), .int .i64 x.sw, .int .i64 x.port, .agg x.pk] [hpB F] fun r m => r = .bool (Pd.hits x p) ∧ m = [hpB F] := by
  refine NCall.fits (K := fun r m => r = .bool (Pd.hits x p) ∧ MemFits m [hpB F]) ?_ fun r m' h => ⟨r, _, rfl, h.2, h.1, rfl⟩
  have c := hits26_c _ F x p u (Nat.le_refl _) hs hu
  generalize Pd.hits x p = hb at *
  have hok := hu.ok
  clear hs hu
  obtain ⟨k, f, v, l⟩ := p
  obtain ⟨sw, port, p0, p1, p2, p3⟩ := x
  simp only [Pd.At.av, Pd.At.pk, pd_cs, Pd.T.l] at *
  refine ncall_of Tryz.func61 rfl (by decide) ?_
  (repeat' (first|(with_reducible first|(refine hK _ _ ?_;clear hK K)|(refine hK _ ?_;clear hK K))|((with_reducible refine gO ?_);(first|((with_reducible refine z25 ?_);intro K hK;(conv=>whnf))|(with_reducible refine z0 ?_)))|((first|((with_reducible refine gH ?_;refine NH.mk ?s ?_);case s=>(and_intros<;>with_reducible rfl))|((with_reducible refine gC ?_;refine NCall.isF 87 ?_);refine NCall.subE [0] (c) rfl (by decide) rfl rfl ?_))<;>(conv=>whnf))|(with_reducible refine gX ?_;first|refine z3 ?_|refine z4 ?_|refine z8 ?_)|(with_reducible first|refine z1 ?_|refine z2 ?_)|((with_reducible refine gR ?_);((refine z31 rfl ?_);intro K hK;(conv=>whnf)))|((with_reducible refine gF ?_);((refine z33 rfl ?_);intro K hK;(conv=>whnf)))|((intro _;skip)<;>(conv=>whnf))))
  all_goals exact ⟨rfl, MemFits.pre 1 rfl⟩
theorem values26_c (f : Int) (hf : -9223372036854775808 ≤ f ∧ f ≤ 9223372036854775807) (t : TypeId) (ht : t = 3) : ∀ (n : Nat) (F : Heap) (p : Pd.T) (u : Value) (out : List Int) (w : Value), Pd.size p ≤ n → out.length + Pd.size p ≤ 2932031007402 → Pd.Row F u p.l →
    NCall Tryz.prog 97 [.sl 1 w out.length, .agg (Pd.cs p u), .int .i64 f] [hpB F, ⟨addrOf w, Srt.av out, .row w t 1 out.length⟩] fun r m => ∃ w', r = .sl 1 w' (out ++ Pd.vals f p).length ∧ m = [hpB F, ⟨addrOf w', Srt.av (out ++ Pd.vals f p), .row w' t 1 (out ++ Pd.vals f p).length⟩]
  | 0, F, p, u, out, w, hn, _, _ => absurd (Pd.size_pos p) (by omega)
  | n + 1, F, ⟨k, a, v, l⟩, u, out, w, hn, hs, hu => by
    subst ht
    refine NCall.fits (K := fun r m => ∃ w', r = .sl 1 w' (out ++ Pd.vals f (.mk k a v l)).length ∧ MemFits m [hpB F, ⟨addrOf w', Srt.av (out ++ Pd.vals f (.mk k a v l)), .row w' 3 1 (out ++ Pd.vals f (.mk k a v l)).length⟩]) ?_ fun r m' ⟨w', h1, h2⟩ => ⟨r, _, rfl, h2, w', h1, rfl⟩
    have hu : Pd.Row F u l := hu
    have hok := hu.ok
    have e2 : Pd.size (.mk k a v l) = 1 + Pd.sizeL l := by rw [Pd.size]
    have hll := Pd.length_le l
    have ih : ∀ x ∈ l, ∀ A, Pd.Row F A x.l → ∀ (o : List Int) (w : Value), o.length + Pd.size x ≤ 2932031007402 → NCall Tryz.prog 97 [.sl 1 w o.length, .agg (Pd.cs x A), .int .i64 f] [hpB F, ⟨addrOf w, Srt.av o, .row w 3 1 o.length⟩]
        fun r m => ∃ w', r = .sl 1 w' (o ++ Pd.vals f x).length ∧ m = [hpB F, ⟨addrOf w', Srt.av (o ++ Pd.vals f x), .row w' 3 1 (o ++ Pd.vals f x).length⟩] :=
      fun x hx A hA o w ho => values26_c f hf 3 rfl n F x A o w (by have := Pd.size_lt (k := k) (f := a) (v := v) hx; omega) ho hA
    generalize ho1 : out ++ (if k = 3 ∧ a = f then [v] else []) = o1
    have hol : o1.length ≤ out.length + 1 := by rw [← ho1, List.length_append]; split <;> simp
    have hav := Srt.av_len out
    have key : ∀ (i : Nat) (w : Value), i ≤ l.length → (o1 ++ Pd.valsL f (l.take i)).length ≤ out.length + 1 + Pd.sizeL (l.take i) := fun i w hi => by
      have := Pd.valsL_len f (l.take i)
      rw [List.length_append]
      omega
    have hfin : out ++ Pd.vals f (.mk k a v l) = o1 ++ Pd.valsL f l := by rw [Pd.vals, ← List.append_assoc, ho1]
    rw [hfin]
    refine ncall_of Tryz.func97 rfl (by decide) ?_
    rw [pd_cs]
    by_cases hka : k = 3 ∧ a = f
    · rw [if_pos hka] at ho1
      obtain ⟨rfl, rfl⟩ := hka
      have hav1 := Srt.av_append out [v]
      rw [ho1] at hav1
      have hol1 : o1.length = out.length + 1 := by rw [← ho1, List.length_append]; rfl
      generalize Srt.av out = ao at *
      (repeat' (first|(with_reducible first|(refine hK _ _ ?_;clear hK K)|(refine hA ?_;clear hA hB A B)|(refine hK _ ?_;clear hK K))|((with_reducible refine gO ?_);(first|((with_reducible first|refine z25 ?_|refine z26 ?_);intro K hK;(conv=>whnf))|(with_reducible refine z0 ?_)))|((first|(with_reducible refine gI ?_;refine NIf.decY ?s ?_;case s=>rfl)|(with_reducible refine gN ?_;refine NN.a5 ?_)|((with_reducible refine gH ?_;refine NH.mk ?s ?_);case s=>(and_intros<;>first|with_reducible rfl|((with_reducible refine gOnes ?_);rfl)|((with_reducible refine gLen ?_);rfl)|omega)))<;>(conv=>whnf))|((with_reducible refine gX ?_);(first|(with_reducible first|refine z3 ?_|refine z4 ?_|refine z5 ?_)|((with_reducible refine z29 ?_);intro A B hA hB;(conv=>whnf))))|(with_reducible first|refine z1 ?_|refine z2 ?_)|((with_reducible refine gF ?_);((refine z33 rfl ?_);intro K hK;(conv=>whnf)))|((intro _;skip)<;>(conv=>whnf))))
      rename_i w2
      have e0 : o1 ++ Pd.valsL a (l.take 0) = o1 := by simp [Pd.valsL]
      refine st_auto (α := Value × Nat) (fun (w, i) => i ≤ l.length) (fun (w, i) => [.set (.sl 1 w (o1 ++ Pd.valsL a (l.take i)).length), .keep, .keep, .keep, .keep, .keep, .keep, .keep, .drop, .keep, .keep, .keep, .keep, .keep, .keep, .keep, .keep, .keep, .keep, .keep, .keep, .keep, .keep, .keep, .keep, .keep, .set (.int .i64 i), .drop, .drop, .drop, .drop, .drop, .drop, .drop, .drop, .keep]) (fun (w, i) => [.keep, .set ⟨addrOf w, Srt.av (o1 ++ Pd.valsL a (l.take i)), .row w 3 1 (o1 ++ Pd.valsL a (l.take i)).length⟩]) (fun (w, i) => l.length - i) (w2, 0) (Nat.zero_le _) ?_ ?_ ?_
      · dsimp only
        rw [e0]
        rw [hol1]
        repeat (first|exact FitsSl.nil|refine FitsSl.any ?_|refine FitsSl.cons (Fit1.int (by first | rfl | omega)) ?_|refine FitsSl.cons (Fit1.bool rfl) ?_|refine FitsSl.cons (Fit1.same (by intro h; cases h) (by with_reducible rfl)) ?_)
      · dsimp only
        rw [e0]
        exact MemFits.congr (by simp only [autoM, hav1, hol1]; rfl)
      (intro ⟨w, i⟩ hi; intro K hK; (conv=>whnf); refine hK _ _ ?_; clear hK K)
      dsimp only
      by_cases hlt : i < l.length
      · have hx : l[i]? = some l[i] := List.getElem?_eq_getElem hlt
        obtain ⟨A, cap, hA, c0, c1, c2, c3⟩ := hu.get hx
        have hmem := List.mem_of_getElem? hx
        have hkey := key i w hi
        have hst := Pd.sizeL_take hlt
        have hle2 := Pd.sizeL_le (l := l) (k := i + 1)
        have hO : o1 ++ Pd.valsL a (l.take (i + 1)) = o1 ++ Pd.valsL a (l.take i) ++ Pd.vals a l[i] := by rw [Pd.valsL_take _ hlt, List.append_assoc]
        have c := ih _ hmem _ hA (o1 ++ Pd.valsL a (l.take i)) w (by omega)
        rw [← hO] at c
        clear ih key
        generalize l[i] = x at *
        obtain ⟨xk, xf, xv, xl⟩ := x
        simp only [Pd.cs, Pd.T.k, Pd.T.f, Pd.T.v, Pd.T.l] at c c0 c1 c2 c3 hA
        generalize o1 ++ Pd.valsL a (l.take i) = O at *
        generalize hO2 : o1 ++ Pd.valsL a (l.take (i + 1)) = O2 at *
        (repeat' (first|(with_reducible first|(refine hK _ _ ?_;clear hK K)|(refine hA ?_;clear hA hB A B))|((with_reducible refine gO ?_);(first|((with_reducible refine z25 ?_);intro K hK;(conv=>whnf))|(with_reducible refine z0 ?_)))|((first|((with_reducible refine gV ?_);(((with_reducible refine NV.i64 ?s ?_);case s=>omega)))|((with_reducible refine gI ?_);(((with_reducible refine NIf.decY ?s ?_);case s=>omega)))|(with_reducible refine gN ?_;first|refine NN.cast ?_|refine NN.keep ?_)|((with_reducible refine gH ?_;refine NH.mk ?s ?_);case s=>(and_intros<;>first|with_reducible rfl|((with_reducible refine gOnes ?_);rfl)|((with_reducible refine gLen ?_);rfl)|omega))|((with_reducible refine gC ?_;refine NCall.isF 97 ?_);refine NCall.subw [0, 1] _ _ (c) rfl (by decide) rfl ?_; rintro _ _ ⟨w', rfl, rfl⟩; refine ⟨Nat.le_of_ble_eq_true rfl, _, rfl, ?_⟩)|(with_reducible refine NLd.of (by with_reducible assumption) ?_))<;>(conv=>whnf))|((with_reducible refine gX ?_);(first|(with_reducible first|refine z3 ?_|refine z4 ?_|refine z5 ?_|refine z6 ?_)|((with_reducible refine z29 ?_);intro A B hA hB;(conv=>whnf))))|(with_reducible first|refine z1 ?_|refine z2 ?_|refine z9 ?_)|((intro _;skip)<;>(conv=>whnf))))
        refine st_round (w', i + 1) hlt (by show l.length - (i + 1) < l.length - i; omega) ?_ (MemFits.pre 4 ?_)
        · dsimp only
          rw [hO2]
          repeat (first|exact FitsSl.nil|refine FitsSl.any ?_|refine FitsSl.cons (Fit1.int (by first | rfl | omega)) ?_|refine FitsSl.cons (Fit1.bool rfl) ?_|refine FitsSl.cons (Fit1.same (by intro h; cases h) (by with_reducible rfl)) ?_)
        · simp only [autoM, List.take, hO2]
          try rfl
      · have hkl : i = l.length := by omega
        subst hkl
        rw [List.take_length]
        (repeat' (first|(with_reducible first|(refine hK _ _ ?_;clear hK K)|(refine hB ?_;clear hA hB A B)|(refine hK _ ?_;clear hK K))|((with_reducible refine gO ?_);(first|((with_reducible refine z25 ?_);intro K hK;(conv=>whnf))|(with_reducible refine z0 ?_)))|((((with_reducible refine gI ?_);(((with_reducible refine NIf.decN ?s ?_);case s=>omega))))<;>(conv=>whnf))|((with_reducible refine gX ?_);(first|(with_reducible first|refine z3 ?_|refine z4 ?_|refine z7 ?_|refine z8 ?_)|((with_reducible refine z29 ?_);intro A B hA hB;(conv=>whnf))))|(with_reducible first|refine z1 ?_|refine z2 ?_|refine z10 ?_|refine z11 ?_|refine z19 ?_)|((with_reducible refine gR ?_);((refine z31 rfl ?_);intro K hK;(conv=>whnf)))))
        all_goals exact ⟨w, rfl, MemFits.pre 2 rfl⟩
    · rw [if_neg hka, List.append_nil] at ho1
      subst o1
      by_cases hk3 : k = 3
      · have haf : a ≠ f := fun e => hka ⟨hk3, e⟩
        (repeat' (first|(with_reducible first|(refine hK _ _ ?_;clear hK K)|(refine hB ?_;clear hA hB A B)|(refine hK _ ?_;clear hK K))|((with_reducible refine gO ?_);(first|((with_reducible first|refine z25 ?_|refine z26 ?_);intro K hK;(conv=>whnf))|(with_reducible refine z0 ?_)))|((first|((with_reducible refine gI ?_);(first|((with_reducible refine NIf.decY ?s ?_);case s=>assumption)|((with_reducible refine NIf.decN ?s ?_);case s=>assumption)))|(with_reducible refine gN ?_;refine NN.a5 ?_)|((with_reducible refine gH ?_;refine NH.mk ?s ?_);case s=>(and_intros<;>first|with_reducible rfl|omega)))<;>(conv=>whnf))|((with_reducible refine gX ?_);(first|(with_reducible first|refine z3 ?_|refine z4 ?_|refine z5 ?_|refine z6 ?_)|((with_reducible refine z29 ?_);intro A B hA hB;(conv=>whnf))))|(with_reducible first|refine z1 ?_|refine z2 ?_)|((with_reducible refine gF ?_);((refine z33 rfl ?_);intro K hK;(conv=>whnf)))|((intro _;skip)<;>(conv=>whnf))))
        have e0 : out ++ Pd.valsL f (l.take 0) = out := by simp [Pd.valsL]
        refine st_auto (α := Value × Nat) (fun (w, i) => i ≤ l.length) (fun (w, i) => [.set (.sl 1 w (out ++ Pd.valsL f (l.take i)).length), .keep, .keep, .keep, .keep, .keep, .keep, .keep, .drop, .keep, .keep, .keep, .keep, .keep, .keep, .keep, .keep, .keep, .keep, .keep, .keep, .keep, .keep, .keep, .keep, .keep, .set (.int .i64 i), .drop, .drop, .drop, .drop, .drop, .drop, .drop, .drop, .keep]) (fun (w, i) => [.keep, .set ⟨addrOf w, Srt.av (out ++ Pd.valsL f (l.take i)), .row w 3 1 (out ++ Pd.valsL f (l.take i)).length⟩]) (fun (w, i) => l.length - i) (w, 0) (Nat.zero_le _) ?_ ?_ ?_
        · dsimp only
          rw [e0]
          repeat (first|exact FitsSl.nil|refine FitsSl.any ?_|refine FitsSl.cons (Fit1.int (by first | rfl | omega)) ?_|refine FitsSl.cons (Fit1.bool rfl) ?_|refine FitsSl.cons (Fit1.same (by intro h; cases h) (by with_reducible rfl)) ?_)
        · dsimp only
          rw [e0]
          exact MemFits.eq rfl
        (intro ⟨w, i⟩ hi; intro K hK; (conv=>whnf); refine hK _ _ ?_; clear hK K)
        dsimp only
        by_cases hlt : i < l.length
        · have hx : l[i]? = some l[i] := List.getElem?_eq_getElem hlt
          obtain ⟨A, cap, hA, c0, c1, c2, c3⟩ := hu.get hx
          have hmem := List.mem_of_getElem? hx
          have hkey := key i w hi
          have hst := Pd.sizeL_take hlt
          have hle2 := Pd.sizeL_le (l := l) (k := i + 1)
          have hO : out ++ Pd.valsL f (l.take (i + 1)) = out ++ Pd.valsL f (l.take i) ++ Pd.vals f l[i] := by rw [Pd.valsL_take _ hlt, List.append_assoc]
          have c := ih _ hmem _ hA (out ++ Pd.valsL f (l.take i)) w (by omega)
          rw [← hO] at c
          clear ih key
          generalize l[i] = x at *
          obtain ⟨xk, xf, xv, xl⟩ := x
          simp only [Pd.cs, Pd.T.k, Pd.T.f, Pd.T.v, Pd.T.l] at c c0 c1 c2 c3 hA
          generalize out ++ Pd.valsL f (l.take i) = O at *
          generalize hO2 : out ++ Pd.valsL f (l.take (i + 1)) = O2 at *
          (repeat' (first|(with_reducible first|(refine hK _ _ ?_;clear hK K)|(refine hA ?_;clear hA hB A B))|((with_reducible refine gO ?_);(first|((with_reducible refine z25 ?_);intro K hK;(conv=>whnf))|(with_reducible refine z0 ?_)))|((first|((with_reducible refine gV ?_);(((with_reducible refine NV.i64 ?s ?_);case s=>omega)))|((with_reducible refine gI ?_);(((with_reducible refine NIf.decY ?s ?_);case s=>omega)))|(with_reducible refine gN ?_;first|refine NN.cast ?_|refine NN.keep ?_)|((with_reducible refine gH ?_;refine NH.mk ?s ?_);case s=>(and_intros<;>first|with_reducible rfl|((with_reducible refine gOnes ?_);rfl)|((with_reducible refine gLen ?_);rfl)|omega))|((with_reducible refine gC ?_;refine NCall.isF 97 ?_);refine NCall.subw [0, 1] _ _ (c) rfl (by decide) rfl ?_; rintro _ _ ⟨w', rfl, rfl⟩; refine ⟨Nat.le_of_ble_eq_true rfl, _, rfl, ?_⟩)|(with_reducible refine NLd.of (by with_reducible assumption) ?_))<;>(conv=>whnf))|((with_reducible refine gX ?_);(first|(with_reducible first|refine z3 ?_|refine z4 ?_|refine z5 ?_|refine z6 ?_)|((with_reducible refine z29 ?_);intro A B hA hB;(conv=>whnf))))|(with_reducible first|refine z1 ?_|refine z2 ?_|refine z9 ?_)|((intro _;skip)<;>(conv=>whnf))))
          refine st_round (w', i + 1) hlt (by show l.length - (i + 1) < l.length - i; omega) ?_ (MemFits.pre 3 ?_)
          · dsimp only
            rw [hO2]
            repeat (first|exact FitsSl.nil|refine FitsSl.any ?_|refine FitsSl.cons (Fit1.int (by first | rfl | omega)) ?_|refine FitsSl.cons (Fit1.bool rfl) ?_|refine FitsSl.cons (Fit1.same (by intro h; cases h) (by with_reducible rfl)) ?_)
          · simp only [autoM, List.take, hO2]
            try rfl
        · have hkl : i = l.length := by omega
          subst hkl
          rw [List.take_length]
          (repeat' (first|(with_reducible first|(refine hK _ _ ?_;clear hK K)|(refine hB ?_;clear hA hB A B)|(refine hK _ ?_;clear hK K))|((with_reducible refine gO ?_);(first|((with_reducible refine z25 ?_);intro K hK;(conv=>whnf))|(with_reducible refine z0 ?_)))|((((with_reducible refine gI ?_);(((with_reducible refine NIf.decN ?s ?_);case s=>omega))))<;>(conv=>whnf))|((with_reducible refine gX ?_);(first|(with_reducible first|refine z3 ?_|refine z4 ?_|refine z7 ?_|refine z8 ?_)|((with_reducible refine z29 ?_);intro A B hA hB;(conv=>whnf))))|(with_reducible first|refine z1 ?_|refine z2 ?_|refine z10 ?_|refine z11 ?_|refine z19 ?_)|((with_reducible refine gR ?_);((refine z31 rfl ?_);intro K hK;(conv=>whnf)))))
          all_goals exact ⟨w, rfl, MemFits.pre 2 rfl⟩
      · (repeat' (first|(with_reducible first|(refine hK _ _ ?_;clear hK K)|(refine hB ?_;clear hA hB A B)|(refine hK _ ?_;clear hK K))|((with_reducible refine gO ?_);(first|((with_reducible first|refine z25 ?_|refine z26 ?_);intro K hK;(conv=>whnf))|(with_reducible refine z0 ?_)))|((first|((with_reducible refine gI ?_);(first|((with_reducible refine NIf.decN ?s ?_);case s=>assumption)|((with_reducible refine NIf.no ?s ?_);case s=>rfl)))|(with_reducible refine gN ?_;refine NN.a5 ?_)|((with_reducible refine gH ?_;refine NH.mk ?s ?_);case s=>(and_intros<;>first|with_reducible rfl|omega)))<;>(conv=>whnf))|((with_reducible refine gX ?_);(first|(with_reducible first|refine z3 ?_|refine z4 ?_|refine z5 ?_|refine z6 ?_)|((with_reducible refine z29 ?_);intro A B hA hB;(conv=>whnf))))|(with_reducible first|refine z1 ?_|refine z2 ?_)|((with_reducible refine gF ?_);((refine z33 rfl ?_);intro K hK;(conv=>whnf)))|((intro _;skip)<;>(conv=>whnf))))
        have e0 : out ++ Pd.valsL f (l.take 0) = out := by simp [Pd.valsL]
        refine st_auto (α := Value × Nat) (fun (w, i) => i ≤ l.length) (fun (w, i) => [.set (.sl 1 w (out ++ Pd.valsL f (l.take i)).length), .keep, .keep, .keep, .keep, .keep, .keep, .keep, .drop, .keep, .keep, .keep, .keep, .keep, .keep, .keep, .keep, .keep, .keep, .keep, .keep, .keep, .keep, .keep, .keep, .keep, .set (.int .i64 i), .drop, .drop, .drop, .drop, .drop, .drop, .drop, .drop, .keep]) (fun (w, i) => [.keep, .set ⟨addrOf w, Srt.av (out ++ Pd.valsL f (l.take i)), .row w 3 1 (out ++ Pd.valsL f (l.take i)).length⟩]) (fun (w, i) => l.length - i) (w, 0) (Nat.zero_le _) ?_ ?_ ?_
        · dsimp only
          rw [e0]
          repeat (first|exact FitsSl.nil|refine FitsSl.any ?_|refine FitsSl.cons (Fit1.int (by first | rfl | omega)) ?_|refine FitsSl.cons (Fit1.bool rfl) ?_|refine FitsSl.cons (Fit1.same (by intro h; cases h) (by with_reducible rfl)) ?_)
        · dsimp only
          rw [e0]
          exact MemFits.eq rfl
        (intro ⟨w, i⟩ hi; intro K hK; (conv=>whnf); refine hK _ _ ?_; clear hK K)
        dsimp only
        by_cases hlt : i < l.length
        · have hx : l[i]? = some l[i] := List.getElem?_eq_getElem hlt
          obtain ⟨A, cap, hA, c0, c1, c2, c3⟩ := hu.get hx
          have hmem := List.mem_of_getElem? hx
          have hkey := key i w hi
          have hst := Pd.sizeL_take hlt
          have hle2 := Pd.sizeL_le (l := l) (k := i + 1)
          have hO : out ++ Pd.valsL f (l.take (i + 1)) = out ++ Pd.valsL f (l.take i) ++ Pd.vals f l[i] := by rw [Pd.valsL_take _ hlt, List.append_assoc]
          have c := ih _ hmem _ hA (out ++ Pd.valsL f (l.take i)) w (by omega)
          rw [← hO] at c
          clear ih key
          generalize l[i] = x at *
          obtain ⟨xk, xf, xv, xl⟩ := x
          simp only [Pd.cs, Pd.T.k, Pd.T.f, Pd.T.v, Pd.T.l] at c c0 c1 c2 c3 hA
          generalize out ++ Pd.valsL f (l.take i) = O at *
          generalize hO2 : out ++ Pd.valsL f (l.take (i + 1)) = O2 at *
          (repeat' (first|(with_reducible first|(refine hK _ _ ?_;clear hK K)|(refine hA ?_;clear hA hB A B))|((with_reducible refine gO ?_);(first|((with_reducible refine z25 ?_);intro K hK;(conv=>whnf))|(with_reducible refine z0 ?_)))|((first|((with_reducible refine gV ?_);(((with_reducible refine NV.i64 ?s ?_);case s=>omega)))|((with_reducible refine gI ?_);(((with_reducible refine NIf.decY ?s ?_);case s=>omega)))|(with_reducible refine gN ?_;first|refine NN.cast ?_|refine NN.keep ?_)|((with_reducible refine gH ?_;refine NH.mk ?s ?_);case s=>(and_intros<;>first|with_reducible rfl|((with_reducible refine gOnes ?_);rfl)|((with_reducible refine gLen ?_);rfl)|omega))|((with_reducible refine gC ?_;refine NCall.isF 97 ?_);refine NCall.subw [0, 1] _ _ (c) rfl (by decide) rfl ?_; rintro _ _ ⟨w', rfl, rfl⟩; refine ⟨Nat.le_of_ble_eq_true rfl, _, rfl, ?_⟩)|(with_reducible refine NLd.of (by with_reducible assumption) ?_))<;>(conv=>whnf))|((with_reducible refine gX ?_);(first|(with_reducible first|refine z3 ?_|refine z4 ?_|refine z5 ?_|refine z6 ?_)|((with_reducible refine z29 ?_);intro A B hA hB;(conv=>whnf))))|(with_reducible first|refine z1 ?_|refine z2 ?_|refine z9 ?_)|((intro _;skip)<;>(conv=>whnf))))
          refine st_round (w', i + 1) hlt (by show l.length - (i + 1) < l.length - i; omega) ?_ (MemFits.pre 3 ?_)
          · dsimp only
            rw [hO2]
            repeat (first|exact FitsSl.nil|refine FitsSl.any ?_|refine FitsSl.cons (Fit1.int (by first | rfl | omega)) ?_|refine FitsSl.cons (Fit1.bool rfl) ?_|refine FitsSl.cons (Fit1.same (by intro h; cases h) (by with_reducible rfl)) ?_)
          · simp only [autoM, List.take, hO2]
            try rfl
        · have hkl : i = l.length := by omega
          subst hkl
          rw [List.take_length]
          (repeat' (first|(with_reducible first|(refine hK _ _ ?_;clear hK K)|(refine hB ?_;clear hA hB A B)|(refine hK _ ?_;clear hK K))|((with_reducible refine gO ?_);(first|((with_reducible refine z25 ?_);intro K hK;(conv=>whnf))|(with_reducible refine z0 ?_)))|((((with_reducible refine gI ?_);(((with_reducible refine NIf.decN ?s ?_);case s=>omega))))<;>(conv=>whnf))|((with_reducible refine gX ?_);(first|(with_reducible first|refine z3 ?_|refine z4 ?_|refine z7 ?_|refine z8 ?_)|((with_reducible refine z29 ?_);intro A B hA hB;(conv=>whnf))))|(with_reducible first|refine z1 ?_|refine z2 ?_|refine z10 ?_|refine z11 ?_|refine z19 ?_)|((with_reducible refine gR ?_);((refine z31 rfl ?_);intro K hK;(conv=>whnf)))))
          all_goals exact ⟨w, rfl, MemFits.pre 2 rfl⟩
end Go.Proofs.YtngodakgbldlpaaGreatDoor
