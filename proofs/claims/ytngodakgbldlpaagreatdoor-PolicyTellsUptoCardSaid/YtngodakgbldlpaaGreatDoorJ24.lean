import Derived.Test.YtngodakgbldlpaaGreatDoorJ23
import Derived.Test.YtngodakgbldlpaaGreatDoorJ15
namespace Go.Proofs.YtngodakgbldlpaaGreatDoor
open Go.Sx
set_option maxRecDepth 20000
set_option linter.unusedVariables false
namespace Po
theorem wideS_min {l : List T} (hp : ∀ y ∈ l, 1 ≤ wide y) : ∀ m, min m 1000 ≤ wideS m l := by
  induction l with
  | nil => intro m; rw [wideS]; exact Nat.min_le_left _ _
  | cons y l ih =>
    intro m
    have h := ih (fun z hz => hp z (by simp [hz])) (min (m * wide y) 1000)
    have h2 := Nat.mul_le_mul_left m (hp y (by simp))
    rw [wideS]
    omega
theorem wideU_min {l : List T} : ∀ m, min m 1000 ≤ wideU m l := by
  induction l with
  | nil => intro m; rw [wideU]; exact Nat.min_le_left _ _
  | cons y l ih =>
    intro m
    have h := ih (min (m + wide y) 1000)
    rw [wideU]
    omega
theorem wideS_pre {l : List T} (hp : ∀ y ∈ l, 1 ≤ wide y) (i : Nat) : wideS 1 (l.take i) ≤ wideS 1 l := by
  have h := wideS_append (l.take i) (l.drop i) 1
  rw [List.take_append_drop] at h
  have h2 := wideS_min (l := l.drop i) (fun z hz => hp z (List.mem_of_mem_drop hz)) (wideS 1 (l.take i))
  have h3 := wideS_le (l.take i) 1 (by decide)
  omega
theorem wideU_pre {l : List T} (i : Nat) : wideU 0 (l.take i) ≤ wideU 0 l := by
  have h := wideU_append (l.take i) (l.drop i) 0
  rw [List.take_append_drop] at h
  have h2 := wideU_min (l := l.drop i) (wideU 0 (l.take i))
  have h3 := wideU_le (l.take i) 0 (by decide)
  omega
theorem wideS_one {l : List T} (hp : ∀ y ∈ l, 1 ≤ wide y) {i : Nat} (h : i < l.length) : wide l[i] ≤ wideS 1 l := by
  have h1 := wideS_pre hp (i + 1)
  rw [wideS_take 1 h] at h1
  have h2 := wideS_min (l := l.take i) (fun z hz => hp z (List.mem_of_mem_take hz)) 1
  have h3 := wide_le l[i]
  have h4 := Nat.mul_le_mul_right (wide l[i]) (show 1 ≤ wideS 1 (l.take i) by omega)
  omega
theorem wideU_one {l : List T} {i : Nat} (h : i < l.length) : wide l[i] ≤ wideU 0 l := by
  have h1 := wideU_pre (l := l) (i + 1)
  rw [wideU_take 0 h] at h1
  have h3 := wide_le l[i]
  omega
theorem seq_parts (sw k : Int) {p : Pd.T} {f v : Int} {l : List T} (h : fits (.mk 3 p f v l) = true) (hw : wide (.mk 3 p f v l) < 1000) (s : S) : (∀ i, (runsQ sw (l.take i) [s]).length < 1000) ∧ ∀ i (hi : i < l.length), wide l[i] < 1000 ∧ ∀ s, (runs sw l[i] s).length ≤ wide l[i] := by
  obtain ⟨_, hfl⟩ := fits_iff.1 h
  have hp : ∀ y ∈ l, 1 ≤ wide y := fun y hy => wide_pos _ y (Nat.le_refl _) (hfl y hy)
  have hr : ∀ y ∈ l, ∀ s, wide y < 1000 → (runs sw y s).length ≤ wide y := fun y hy => runs_len sw _ y (Nat.le_refl _) (hfl y hy)
  rw [wide_mk, if_pos rfl] at hw
  refine ⟨fun i => ?_, fun i hi => ?_⟩
  · have h1 := wideS_pre hp i
    have := runsQ_len sw (l.take i) [s] 1 (fun y hy => hr y (List.mem_of_mem_take hy)) (fun y hy => hp y (List.mem_of_mem_take hy)) (Nat.le_refl _) (by simp) (by omega)
    omega
  · have h1 := wideS_one hp hi
    exact ⟨by omega, fun s => hr _ (List.getElem_mem hi) s (by omega)⟩
theorem uni_parts (sw : Int) {p : Pd.T} {f v : Int} {l : List T} (h : fits (.mk 4 p f v l) = true) (hw : wide (.mk 4 p f v l) < 1000) (s : S) : (∀ i, (runsU sw (l.take i) s []).length < 1000) ∧ ∀ i (hi : i < l.length), wide l[i] < 1000 ∧ ∀ s, (runs sw l[i] s).length ≤ wide l[i] := by
  obtain ⟨_, hfl⟩ := fits_iff.1 h
  have hr : ∀ y ∈ l, ∀ s, wide y < 1000 → (runs sw y s).length ≤ wide y := fun y hy => runs_len sw _ y (Nat.le_refl _) (hfl y hy)
  rw [wide_mk, if_neg (by decide), if_pos rfl] at hw
  refine ⟨fun i => ?_, fun i hi => ?_⟩
  · have h1 := wideU_pre (l := l) i
    have := runsU_len sw s (l.take i) [] 0 (fun y hy => hr y (List.mem_of_mem_take hy) s) (by simp) (by omega)
    omega
  · have h1 := wideU_one hi
    exact ⟨by omega, fun s => hr _ (List.getElem_mem hi) s (by omega)⟩
theorem if_parts {p : Pd.T} {f v : Int} {a b : T} (hw : wide (.mk 5 p f v [a, b]) < 1000) : wide a < 1000 ∧ wide b < 1000 := by
  rw [wide_mk, if_neg (by decide), if_neg (by decide), if_pos rfl] at hw
  have h1 := (wideI_ge [a, b] 0).2 a (by simp)
  have h2 := (wideI_ge [a, b] 0).2 b (by simp)
  omega
theorem runs_k3 (sw f v : Int) (p : Pd.T) (l : List T) (t : S) : runs sw (.mk 3 p f v l) t = runsQ sw l [t] := by rw [runs_mk]; simp
theorem runs_k4 (sw f v : Int) (p : Pd.T) (l : List T) (t : S) : runs sw (.mk 4 p f v l) t = runsU sw l t [] := by rw [runs_mk]; simp
theorem runs_k5 (sw f v : Int) (p : Pd.T) (a b : T) (t : S) : runs sw (.mk 5 p f v [a, b]) t = if Pd.hits (t.at_ sw) p = true then runs sw a t else runs sw b t := by rw [runs_mk, runsA, runsB, runsA]; simp
theorem runsU_nil (sw : Int) (t : S) : runsU sw ([] : List T) t [] = [] := by rw [runsU]
theorem fold_take (sw : Int) (y : T) {out : List S} {k : Nat} (h : k < out.length) : (out.take (k + 1)).foldl (fun next t => both next (runs sw y t)) [] = both ((out.take k).foldl (fun next t => both next (runs sw y t)) []) (runs sw y out[k]) := by
  rw [List.take_add_one, List.getElem?_eq_getElem h, Option.toList_some, List.foldl_append]; rfl
theorem both_take (a : List S) {b : List S} {k : Nat} (h : k < b.length) : both a (b.take (k + 1)) = ins b[k] (both a (b.take k)) := by
  unfold both
  rw [List.take_add_one, List.getElem?_eq_getElem h, Option.toList_some, List.foldl_append]; rfl
end Po
end Go.Proofs.YtngodakgbldlpaaGreatDoor
namespace Go.Proofs.YtngodakgbldlpaaGreatDoor
open Go.Sx
set_option maxRecDepth 20000
set_option linter.unusedSimpArgs false
set_option linter.unusedVariables false
set_option maxHeartbeats 4000000
set_option linter.unusedVariables false
namespace Pd
theorem cnt_le (x : At) (l : List T) : cnt x l ≤ l.length := by unfold cnt; exact List.length_filter_le _ _
theorem cnt_append (x : At) (a b : List T) : cnt x (a ++ b) = cnt x a + cnt x b := by unfold cnt; rw [List.filter_append, List.length_append]
theorem cnt_take (x : At) {l : List T} {k : Nat} (h : k < l.length) : cnt x (l.take (k + 1)) = cnt x (l.take k) + (if hits x l[k] = true then 1 else 0) := by
  rw [List.take_add_one, List.getElem?_eq_getElem h, cnt_append]
  congr 1
  unfold cnt
  cases hh : hits x l[k] <;> simp [hh]
theorem cnt_all (x : At) (l : List T) : hitsAll x l = decide (cnt x l = l.length) := by
  induction l with
  | nil => simp [hitsAll, cnt]
  | cons p l ih =>
    have h1 := cnt_le x l
    have e : cnt x (p :: l) = (if hits x p = true then 1 else 0) + cnt x l := by
      unfold cnt
      cases hh : hits x p <;> simp [hh]
      omega
    rw [hitsAll, ih, e, List.length_cons]
    cases hits x p
    · simp; omega
    · simp; omega
theorem cnt_none (x : At) (l : List T) : (!hitsNone x l) = decide (0 < cnt x l) := by
  induction l with
  | nil => simp [hitsNone, cnt]
  | cons p l ih =>
    have e : cnt x (p :: l) = (if hits x p = true then 1 else 0) + cnt x l := by
      unfold cnt
      cases hh : hits x p <;> simp [hh]
      omega
    rw [hitsNone, e]
    cases hits x p
    · simp only [Bool.not_false, Bool.true_and, ih]; simp
    · simp; omega
end Pd
theorem refhits26_c (F : Heap) (x : Pd.At) : ∀ (n : Nat) (p : Pd.T) (u : Value), Pd.size p ≤ n → Pd.size p ≤ 4611686018427387904 → Pd.Row F u p.l →
    NCall Tryz.prog 45 [.agg (Pd.cs p u), .int .i64 x.sw, .int .i64 x.port, .agg x.pk] [hpB F] fun r m => r = .bool (Pd.hits x p) ∧ m = [hpB F]
  | 0, p, u, hn, _, _ => absurd (Pd.size_pos p) (by omega)
  | n + 1, ⟨k, f, v, l⟩, u, hn, hs, hu => by
    refine NCall.fits (K := fun r m => r = .bool (Pd.hits x (.mk k f v l)) ∧ MemFits m [hpB F]) ?_ fun r m' h => ⟨r, _, rfl, h.2, h.1, rfl⟩
    have hu : Pd.Row F u l := hu
    have hok := hu.ok
    have hll := Pd.length_le l
    have e2 : Pd.size (.mk k f v l) = 1 + Pd.sizeL l := by rw [Pd.size]
    have ih : ∀ y ∈ l, ∀ A, Pd.Row F A y.l → NCall Tryz.prog 45 [.agg (Pd.cs y A), .int .i64 x.sw, .int .i64 x.port, .agg x.pk] [hpB F] fun r m => r = .bool (Pd.hits x y) ∧ m = [hpB F] := fun y hy A hA => refhits26_c F x n y A (by have := Pd.size_lt (k := k) (f := f) (v := v) hy; omega) (by have := Pd.size_lt (k := k) (f := f) (v := v) hy; omega) hA
    have hget := refget26_c f x
    refine ncall_of Tryz.func45 rfl (by decide) ?_
    rw [pd_cs]
    by_cases h1 : k = 1
    · subst h1
      rw [Pd.hits_1]
      obtain ⟨sw, port, p0, p1, p2, p3⟩ := x
      simp only [Pd.At.pk] at *
      (repeat' (first|(with_reducible first|(refine hK _ _ ?_;clear hK K)|(refine hA ?_;clear hA hB A B)|(refine hK _ ?_;clear hK K))|((with_reducible refine gO ?_);(first|((with_reducible refine z25 ?_);intro K hK;(conv=>whnf))|(with_reducible refine z0 ?_)))|((first|(with_reducible refine gI ?_;refine NIf.decY ?s ?_;case s=>rfl)|(with_reducible refine gN ?_;refine NN.a5 ?_)|((with_reducible refine gH ?_;refine NH.mk ?s ?_);case s=>(and_intros<;>with_reducible rfl)))<;>(conv=>whnf))|((with_reducible refine gX ?_);(first|(with_reducible first|refine z3 ?_|refine z4 ?_|refine z8 ?_)|((with_reducible refine z29 ?_);intro A B hA hB;(conv=>whnf))))|(with_reducible first|refine z1 ?_|refine z2 ?_|refine z12 ?_)|((with_reducible refine gR ?_);((refine z31 rfl ?_);intro K hK;(conv=>whnf)))|((with_reducible refine gF ?_);((refine z33 rfl ?_);intro K hK;(conv=>whnf)))|((intro _;skip)<;>(conv=>whnf))))
      all_goals exact ⟨rfl, MemFits.pre 1 rfl⟩
    by_cases h3 : k = 3
    · subst h3
      rw [Pd.hits_3]
      clear ih
      generalize hgv : Pd.get f x = gv at *
      obtain ⟨sw, port, p0, p1, p2, p3⟩ := x
      simp only [Pd.At.pk] at *
      by_cases hr : 0 ≤ f ∧ f ≤ 5
      · by_cases hv : gv = v
        · rw [decide_eq_true ⟨hr, hv⟩]
          subst hv
          (repeat' (first|(with_reducible first|(refine hK _ _ ?_;clear hK K)|(refine hA ?_;clear hA hB A B)|(refine hB ?_;clear hA hB A B)|(refine hK _ ?_;clear hK K))|((with_reducible refine gO ?_);(first|((with_reducible refine z25 ?_);intro K hK;(conv=>whnf))|(with_reducible refine z0 ?_)))|((first|((with_reducible refine gI ?_);(first|(((with_reducible refine NIf.yes ?s ?_);case s=>(simp ;done)))|(((with_reducible refine NIf.no ?s ?_);case s=>(simp ;done)))|((with_reducible refine NIf.decY ?s ?_);case s=>omega)))|(with_reducible refine gN ?_;refine NN.a5 ?_)|((with_reducible refine gH ?_;refine NH.mk ?s ?_);case s=>(and_intros<;>first|with_reducible rfl|((with_reducible refine gKept ?_);exact rfl)|rfl))|((with_reducible refine gC ?_;refine NCall.isF 74 ?_);refine NCall.pureE (hget) ?_))<;>(conv=>whnf))|(with_reducible refine gNRK ?_;refine st_ordSout ?_)|((with_reducible refine gNOK ?_);(first|(refine st_ordK1 rfl (by kernel_rfl) rfl ?_; intro K hK; (conv=>whnf))|(refine st_ordK1g rfl (by kernel_rfl) rfl ?_; intro K hK; (conv=>whnf))|(refine st_ordK0 rfl (by kernel_rfl) ?_)|(refine st_ordKA rfl rfl (by kernel_rfl) (by intro h; cases h) ?_)))|((with_reducible refine gNEK ?_);(first|(refine st_eachKg rfl ?_ ?_; (intro K hK; (conv=>whnf)))|exact st_eachK0))|((with_reducible refine gX ?_);(first|(refine st_orderS [] rfl rfl (by kernel_rfl) _ rfl ?_)|(with_reducible first|refine z3 ?_|refine z4 ?_|refine z6 ?_|refine z8 ?_)|((with_reducible refine z29 ?_);intro A B hA hB;(conv=>whnf))))|(with_reducible first|refine z1 ?_|refine z2 ?_|refine z12 ?_)|((with_reducible refine gR ?_);((refine z31 rfl ?_);intro K hK;(conv=>whnf)))|((with_reducible refine gF ?_);((refine z33 rfl ?_);intro K hK;(conv=>whnf)))|((intro _;skip)<;>(conv=>whnf))))
          all_goals exact ⟨by simp, MemFits.pre 1 rfl⟩
        · rw [decide_eq_false (fun h => hv h.2)]
          (repeat' (first|(with_reducible first|(refine hK _ _ ?_;clear hK K)|(refine hA ?_;clear hA hB A B)|(refine hB ?_;clear hA hB A B)|(refine hK _ ?_;clear hK K))|((with_reducible refine gO ?_);(first|((with_reducible refine z25 ?_);intro K hK;(conv=>whnf))|(with_reducible refine z0 ?_)))|((first|((with_reducible refine gI ?_);(first|(((with_reducible refine NIf.yes ?s ?_);case s=>(simp [hv];done)))|(((with_reducible refine NIf.no ?s ?_);case s=>(simp [hv];done)))|((with_reducible refine NIf.decY ?s ?_);case s=>omega)))|(with_reducible refine gN ?_;refine NN.a5 ?_)|((with_reducible refine gH ?_;refine NH.mk ?s ?_);case s=>(and_intros<;>first|with_reducible rfl|((with_reducible refine gKept ?_);exact rfl)|rfl))|((with_reducible refine gC ?_;refine NCall.isF 74 ?_);refine NCall.pureE (hget) ?_))<;>(conv=>whnf))|(with_reducible refine gNRK ?_;refine st_ordSout ?_)|((with_reducible refine gNOK ?_);(first|(refine st_ordK1 rfl (by kernel_rfl) rfl ?_; intro K hK; (conv=>whnf))|(refine st_ordK1g rfl (by kernel_rfl) rfl ?_; intro K hK; (conv=>whnf))|(refine st_ordK0 rfl (by kernel_rfl) ?_)|(refine st_ordKA rfl rfl (by kernel_rfl) (by intro h; cases h) ?_)))|((with_reducible refine gNEK ?_);(first|(refine st_eachKg rfl ?_ ?_; (intro K hK; (conv=>whnf)))|exact st_eachK0))|((with_reducible refine gX ?_);(first|(refine st_orderS [] rfl rfl (by kernel_rfl) _ rfl ?_)|(with_reducible first|refine z3 ?_|refine z4 ?_|refine z6 ?_|refine z8 ?_)|((with_reducible refine z29 ?_);intro A B hA hB;(conv=>whnf))))|(with_reducible first|refine z1 ?_|refine z2 ?_|refine z12 ?_)|((with_reducible refine gR ?_);((refine z31 rfl ?_);intro K hK;(conv=>whnf)))|((with_reducible refine gF ?_);((refine z33 rfl ?_);intro K hK;(conv=>whnf)))|((intro _;skip)<;>(conv=>whnf))))
          all_goals exact ⟨by simp [hv], MemFits.pre 1 rfl⟩
      · rw [decide_eq_false (fun h => hr h.1)]
        (repeat' (first|(with_reducible first|(refine hK _ _ ?_;clear hK K)|(refine hA ?_;clear hA hB A B)|(refine hB ?_;clear hA hB A B)|(refine hK _ ?_;clear hK K))|((with_reducible refine gO ?_);(first|((with_reducible refine z25 ?_);intro K hK;(conv=>whnf))|(with_reducible refine z0 ?_)))|((first|((with_reducible refine gI ?_);(first|((with_reducible refine NIf.decY ?s ?_);case s=>first|with_reducible rfl|assumption)|((with_reducible refine NIf.decN ?s ?_);case s=>first|assumption|omega)|((with_reducible refine NIf.no ?s ?_);case s=>rfl)|(with_reducible refine NIf.dec (fun _=>?_) (fun _=>?_))))|(with_reducible refine gN ?_;refine NN.a5 ?_)|((with_reducible refine gH ?_;refine NH.mk ?s ?_);case s=>(and_intros<;>first|with_reducible rfl|rfl)))<;>(conv=>whnf))|(with_reducible refine gNRK ?_;refine st_ordSout ?_)|((with_reducible refine gNOK ?_);(first|(refine st_ordK1 rfl (by kernel_rfl) rfl ?_; intro K hK; (conv=>whnf))|(refine st_ordK1g rfl (by kernel_rfl) rfl ?_; intro K hK; (conv=>whnf))|(refine st_ordK0 rfl (by kernel_rfl) ?_)|(refine st_ordKA rfl rfl (by kernel_rfl) (by intro h; cases h) ?_)))|((with_reducible refine gNEK ?_);(first|(refine st_eachKg rfl ?_ ?_; (intro K hK; (conv=>whnf)))|exact st_eachK0))|((with_reducible refine gX ?_);(first|(refine st_orderS [] rfl rfl (by kernel_rfl) _ rfl ?_)|(with_reducible first|refine z3 ?_|refine z4 ?_|refine z6 ?_|refine z8 ?_)|((with_reducible refine z29 ?_);intro A B hA hB;(conv=>whnf))))|(with_reducible first|refine z1 ?_|refine z2 ?_|refine z12 ?_)|((with_reducible refine gR ?_);((refine z31 rfl ?_);intro K hK;(conv=>whnf)))|((with_reducible refine gF ?_);((refine z33 rfl ?_);intro K hK;(conv=>whnf)))|((intro _;skip)<;>(conv=>whnf))))
        all_goals exact ⟨by simp, MemFits.pre 1 rfl⟩
    by_cases h4 : k = 4
    · subst h4
      cases l with
      | nil =>
        rw [Pd.hits_4n]
        obtain ⟨sw, port, p0, p1, p2, p3⟩ := x
        simp only [Pd.At.pk, List.length_nil] at *
        (repeat' (first|(with_reducible first|(refine hK _ _ ?_;clear hK K)|(refine hA ?_;clear hA hB A B)|(refine hB ?_;clear hA hB A B)|(refine hK _ ?_;clear hK K))|((with_reducible refine gO ?_);(first|((with_reducible refine z25 ?_);intro K hK;(conv=>whnf))|(with_reducible refine z0 ?_)))|((first|((with_reducible refine gI ?_);(first|(with_reducible refine NIf.decY ?s ?_;case s=>rfl)|((with_reducible refine NIf.decN ?s ?_);case s=>first|assumption|omega)))|(with_reducible refine gN ?_;refine NN.a5 ?_)|((with_reducible refine gH ?_;refine NH.mk ?s ?_);case s=>(and_intros<;>first|with_reducible rfl|omega|rfl)))<;>(conv=>whnf))|(with_reducible refine gNRK ?_;refine st_ordSout ?_)|((with_reducible refine gNOK ?_);(first|(refine st_ordK1 rfl (by kernel_rfl) rfl ?_; intro K hK; (conv=>whnf))|(refine st_ordK1g rfl (by kernel_rfl) rfl ?_; intro K hK; (conv=>whnf))|(refine st_ordK0 rfl (by kernel_rfl) ?_)|(refine st_ordKA rfl rfl (by kernel_rfl) (by intro h; cases h) ?_)))|((with_reducible refine gNEK ?_);(first|(refine st_eachKg rfl ?_ ?_; (intro K hK; (conv=>whnf)))|exact st_eachK0))|((with_reducible refine gX ?_);(first|(refine st_orderS [] rfl rfl (by kernel_rfl) _ rfl ?_)|(with_reducible first|refine z3 ?_|refine z4 ?_|refine z6 ?_|refine z8 ?_)|((with_reducible refine z29 ?_);intro A B hA hB;(conv=>whnf))))|(with_reducible first|refine z1 ?_|refine z2 ?_|refine z12 ?_)|((with_reducible refine gR ?_);((refine z31 rfl ?_);intro K hK;(conv=>whnf)))|((with_reducible refine gF ?_);((refine z33 rfl ?_);intro K hK;(conv=>whnf)))|((intro _;skip)<;>(conv=>whnf))))
        all_goals first
          | exact ⟨rfl, MemFits.pre 1 rfl⟩
          | (exfalso; omega)
      | cons q l =>
        rw [Pd.hits_4]
        obtain ⟨A, cap, hA, c0, c1, c2, c3⟩ := hu.get (i := 0) (x := q) rfl
        have c := ih q (by simp) _ hA
        clear ih
        generalize Pd.hits x q = hb at *
        simp only [Pd.cs] at c
        generalize hln : (q :: l).length = ln at *
        have hpos : 0 < ln := by rw [← hln]; simp
        obtain ⟨sw, port, p0, p1, p2, p3⟩ := x
        simp only [Pd.At.pk] at *
        (repeat' (first|(with_reducible first|(refine hK _ _ ?_;clear hK K)|(refine hA ?_;clear hA hB A B)|(refine hB ?_;clear hA hB A B)|(refine hK _ ?_;clear hK K))|((with_reducible refine gO ?_);(first|((with_reducible refine z25 ?_);intro K hK;(conv=>whnf))|(with_reducible refine z0 ?_)))|((first|((with_reducible refine gI ?_);(first|((with_reducible refine NIf.decY ?s ?_);case s=>first|with_reducible rfl|omega)|((with_reducible refine NIf.decN ?s ?_);case s=>assumption)))|(with_reducible refine gN ?_;first|refine NN.lit ?_|refine NN.a5 ?_|refine NN.a6 ?_)|((with_reducible refine gH ?_;refine NH.mk ?s ?_);case s=>(and_intros<;>first|with_reducible rfl|((with_reducible refine gKept ?_);exact rfl)|omega|rfl))|((with_reducible refine gC ?_;refine NCall.isF 45 ?_);refine NCall.subE [0] (c) rfl (by decide) rfl rfl ?_)|(with_reducible refine NLd.of (by with_reducible assumption) ?_))<;>(conv=>whnf))|(with_reducible refine gNRK ?_;refine st_ordSout ?_)|((with_reducible refine gNOK ?_);(first|(refine st_ordK1 rfl (by kernel_rfl) rfl ?_; intro K hK; (conv=>whnf))|(refine st_ordK1g rfl (by kernel_rfl) rfl ?_; intro K hK; (conv=>whnf))|(refine st_ordK0 rfl (by kernel_rfl) ?_)|(refine st_ordKA rfl rfl (by kernel_rfl) (by intro h; cases h) ?_)))|((with_reducible refine gNEK ?_);(first|(refine st_eachKg rfl ?_ ?_; (intro K hK; (conv=>whnf)))|exact st_eachK0))|((with_reducible refine gX ?_);(first|(refine st_orderS [] rfl rfl (by kernel_rfl) _ rfl ?_)|(with_reducible first|refine z3 ?_|refine z4 ?_|refine z6 ?_|refine z8 ?_)|((with_reducible refine z29 ?_);intro A B hA hB;(conv=>whnf))))|(with_reducible first|refine z1 ?_|refine z2 ?_|refine z12 ?_)|((with_reducible refine gR ?_);((refine z31 rfl ?_);intro K hK;(conv=>whnf)))|((with_reducible refine gF ?_);((refine z33 rfl ?_);intro K hK;(conv=>whnf)))|((intro _;skip)<;>(conv=>whnf))))
        all_goals first
          | exact ⟨rfl, MemFits.pre 1 rfl⟩
          | (exfalso; omega)
    have hans : Pd.hits x (.mk k f v l) = (decide (k = 5) && decide (Pd.cnt x l = l.length) || decide (k = 6) && decide (0 < Pd.cnt x l)) := by
      by_cases h5 : k = 5
      · subst h5; rw [Pd.hits_5, Pd.cnt_all]; simp
      · by_cases h6 : k = 6
        · subst h6; rw [Pd.hits_6, Pd.cnt_none]; simp
        · rw [Pd.hits_no x k f v l (by omega)]; simp [h5, h6]
    rw [hans]
    (repeat' (first|(with_reducible first|(refine hK _ _ ?_;clear hK K)|(refine hB ?_;clear hA hB A B)|(refine hK _ ?_;clear hK K))|((with_reducible refine gO ?_);(first|((with_reducible refine z25 ?_);intro K hK;(conv=>whnf))|(with_reducible refine z0 ?_)))|((first|((with_reducible refine gI ?_);(((with_reducible refine NIf.decN ?s ?_);case s=>assumption)))|(with_reducible refine gN ?_;refine NN.a5 ?_)|((with_reducible refine gH ?_;refine NH.mk ?s ?_);case s=>(and_intros<;>with_reducible rfl)))<;>(conv=>whnf))|((with_reducible refine gX ?_);(first|(with_reducible first|refine z3 ?_|refine z4 ?_|refine z5 ?_|refine z6 ?_)|((with_reducible refine z29 ?_);intro A B hA hB;(conv=>whnf))))|(with_reducible first|refine z1 ?_|refine z2 ?_)|((with_reducible refine gF ?_);((refine z33 rfl ?_);intro K hK;(conv=>whnf)))|((intro _;skip)<;>(conv=>whnf))))
    refine st_auto (α := Nat) (fun i => i ≤ l.length) (fun i => [.keep, .keep, .keep, .keep, .keep, .keep, .keep, .keep, .keep, .set (.int .i64 (Pd.cnt x (l.take i) : Nat)), .set (.int .i64 i), .keep, .keep, .keep, .keep, .keep, .keep, .keep, .keep, .keep, .keep, .keep, .keep, .keep, .keep, .keep, .keep, .keep, .keep, .keep, .keep, .keep, .keep, .keep, .keep, .keep, .keep, .keep, .keep, .keep, .keep, .keep, .keep, .keep, .keep, .keep, .keep, .keep, .keep, .keep, .keep, .keep, .keep, .keep, .drop, .drop, .drop, .drop, .drop, .drop, .drop, .drop, .drop, .drop, .drop, .drop, .drop, .drop, .drop, .drop, .drop, .drop, .keep, .keep, .keep, .keep, .keep, .keep, .keep, .keep, .keep, .keep, .keep, .keep, .keep, .keep, .keep, .keep, .keep, .keep, .keep]) (fun _ => []) (fun i => l.length - i) 0 (Nat.zero_le _) ?_ (MemFits.eq rfl) ?_
    · repeat (first|exact FitsSl.nil|refine FitsSl.any ?_|refine FitsSl.cons (Fit1.int (by  simp [Pd.cnt])) ?_|refine FitsSl.cons (Fit1.bool rfl) ?_|refine FitsSl.cons (Fit1.same (by intro h; cases h) (by with_reducible rfl)) ?_)
    (intro i hi; intro K hK; (conv=>whnf); refine hK _ _ ?_; clear hK K)
    have hcl := Pd.cnt_le x (l.take i)
    rw [List.length_take] at hcl
    by_cases hlt : i < l.length
    · have hx : l[i]? = some l[i] := List.getElem?_eq_getElem hlt
      obtain ⟨A, cap, hA, c0, c1, c2, c3⟩ := hu.get hx
      have hmem := List.mem_of_getElem? hx
      have c := ih _ hmem _ hA
      have hnx := Pd.cnt_take x hlt
      clear ih hans
      generalize l[i] = y at *
      simp only [Pd.cs] at c
      generalize Pd.cnt x (l.take i) = ci at *
      cases hq : Pd.hits x y with
      | true =>
        rw [hq] at c hnx
        simp only [Pd.At.pk] at *
        (repeat' (first|(with_reducible first|(refine hK _ _ ?_;clear hK K)|(refine hA ?_;clear hA hB A B)|(refine hK _ ?_;clear hK K))|((with_reducible refine gO ?_);(first|((with_reducible refine z25 ?_);intro K hK;(conv=>whnf))|(with_reducible refine z0 ?_)))|((first|((with_reducible refine gV ?_);(((with_reducible refine NV.i64 ?s ?_);case s=>omega)))|((with_reducible refine gI ?_);(first|((with_reducible refine NIf.decY ?s ?_);case s=>omega)|((with_reducible refine NIf.yes ?s ?_);case s=>rfl)))|(with_reducible refine gN ?_;first|refine NN.cast ?_|refine NN.a5 ?_|refine NN.keep ?_)|((with_reducible refine gH ?_;refine NH.mk ?s ?_);case s=>(and_intros<;>first|with_reducible rfl|((with_reducible refine gKept ?_);exact rfl)|omega|rfl))|((with_reducible refine gC ?_;refine NCall.isF 45 ?_);refine NCall.subE [0] (c) rfl (by decide) rfl rfl ?_)|(with_reducible refine NLd.of (by with_reducible assumption) ?_))<;>(conv=>whnf))|(with_reducible refine gNRK ?_;refine st_ordSout ?_)|((with_reducible refine gNOK ?_);(first|(refine st_ordK1 rfl (by kernel_rfl) rfl ?_; intro K hK; (conv=>whnf))|(refine st_ordK0 rfl (by kernel_rfl) ?_)|(refine st_ordKA rfl rfl (by kernel_rfl) (by intro h; cases h) ?_)))|((with_reducible refine gNEK ?_);(first|(refine st_eachK ?_ ?_; (intro K hK; (conv=>whnf)))|exact st_eachK0))|((with_reducible refine gX ?_);(first|(refine st_orderS [] rfl rfl (by kernel_rfl) _ rfl ?_)|(with_reducible first|refine z3 ?_|refine z4 ?_|refine z5 ?_|refine z6 ?_)|((with_reducible refine z29 ?_);intro A B hA hB;(conv=>whnf))))|(with_reducible first|refine z1 ?_|refine z2 ?_|refine z9 ?_)))
        all_goals refine st_round (i + 1) hlt (by omega) ?_ (MemFits.eq rfl)
        all_goals repeat (first|exact FitsSl.nil|refine FitsSl.any ?_|refine FitsSl.cons (Fit1.int (by  (rw [hnx]; simp))) ?_|refine FitsSl.cons (Fit1.int (by first | rfl | omega)) ?_|refine FitsSl.cons (Fit1.bool rfl) ?_|refine FitsSl.cons (Fit1.same (by intro h; cases h) (by with_reducible rfl)) ?_)
      | false =>
        rw [hq] at c hnx
        simp only [Pd.At.pk] at *
        (repeat' (first|(with_reducible first|(refine hK _ _ ?_;clear hK K)|(refine hA ?_;clear hA hB A B)|(refine hB ?_;clear hA hB A B)|(refine hK _ ?_;clear hK K))|((with_reducible refine gO ?_);(first|((with_reducible refine z25 ?_);intro K hK;(conv=>whnf))|(with_reducible refine z0 ?_)))|((first|((with_reducible refine gV ?_);(((with_reducible refine NV.i64 ?s ?_);case s=>omega)))|((with_reducible refine gI ?_);(first|((with_reducible refine NIf.decY ?s ?_);case s=>omega)|((with_reducible refine NIf.no ?s ?_);case s=>rfl)))|(with_reducible refine gN ?_;first|refine NN.cast ?_|refine NN.a5 ?_|refine NN.keep ?_)|((with_reducible refine gH ?_;refine NH.mk ?s ?_);case s=>(and_intros<;>first|with_reducible rfl|((with_reducible refine gKept ?_);exact rfl)|omega|rfl))|((with_reducible refine gC ?_;refine NCall.isF 45 ?_);refine NCall.subE [0] (c) rfl (by decide) rfl rfl ?_)|(with_reducible refine NLd.of (by with_reducible assumption) ?_))<;>(conv=>whnf))|(with_reducible refine gNRK ?_;refine st_ordSout ?_)|((with_reducible refine gNOK ?_);(first|(refine st_ordK1 rfl (by kernel_rfl) rfl ?_; intro K hK; (conv=>whnf))|(refine st_ordK0 rfl (by kernel_rfl) ?_)|(refine st_ordKA rfl rfl (by kernel_rfl) (by intro h; cases h) ?_)))|((with_reducible refine gNEK ?_);(first|(refine st_eachK ?_ ?_; (intro K hK; (conv=>whnf)))|exact st_eachK0))|((with_reducible refine gX ?_);(first|(refine st_orderS [] rfl rfl (by kernel_rfl) _ rfl ?_)|(with_reducible first|refine z3 ?_|refine z4 ?_|refine z5 ?_|refine z6 ?_)|((with_reducible refine z29 ?_);intro A B hA hB;(conv=>whnf))))|(with_reducible first|refine z1 ?_|refine z2 ?_|refine z9 ?_)))
        all_goals refine st_round (i + 1) hlt (by omega) ?_ (MemFits.eq rfl)
        all_goals repeat (first|exact FitsSl.nil|refine FitsSl.any ?_|refine FitsSl.cons (Fit1.int (by  (rw [hnx]; simp))) ?_|refine FitsSl.cons (Fit1.int (by first | rfl | omega)) ?_|refine FitsSl.cons (Fit1.bool rfl) ?_|refine FitsSl.cons (Fit1.same (by intro h; cases h) (by with_reducible rfl)) ?_)
    · have hkl : i = l.length := by omega
      subst hkl
      rw [List.take_length] at hcl ⊢
      generalize Pd.cnt x l = ci at *
      clear ih hans
      (repeat' (first|(with_reducible first|(refine hK _ _ ?_;clear hK K)|(refine hB ?_;clear hA hB A B)|(refine hK _ ?_;clear hK K))|((with_reducible refine gO ?_);(first|((with_reducible first|refine z25 ?_|refine z26 ?_);intro K hK;(conv=>whnf))|(with_reducible refine z0 ?_)))|((first|((with_reducible refine gI ?_);(first|((with_reducible refine NIf.decY ?s ?_);case s=>assumption)|((with_reducible refine NIf.decN ?s ?_);case s=>first|assumption|omega)|((with_reducible refine NIf.no ?s ?_);case s=>rfl)|(with_reducible refine NIf.dec (fun _=>?_) (fun _=>?_))))|(with_reducible refine gN ?_;refine NN.a5 ?_)|((with_reducible refine gH ?_;refine NH.mk ?s ?_);case s=>(and_intros<;>first|with_reducible rfl|omega)))<;>(conv=>whnf))|((with_reducible refine gX ?_);(first|(with_reducible first|refine z3 ?_|refine z4 ?_|refine z7 ?_|refine z8 ?_)|((with_reducible refine z29 ?_);intro A B hA hB;(conv=>whnf))))|(with_reducible first|refine z1 ?_|refine z2 ?_|refine z10 ?_|refine z11 ?_|refine z19 ?_)|((with_reducible refine gR ?_);((refine z31 rfl ?_);intro K hK;(conv=>whnf)))))
      all_goals
        refine ⟨?_, MemFits.pre 1 rfl⟩
        congr 1
        first
          | (simp; omega)
          | (rw [Bool.eq_iff_iff]; simp; omega)
end Go.Proofs.YtngodakgbldlpaaGreatDoor
