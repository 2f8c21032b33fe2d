/-
  Conditions: the same, by the document; which may be.
-/
import Derived.Test.YtngodakgbldlpaaGreatDoorTPd4
namespace Go.Proofs.YtngodakgbldlpaaGreatDoor
open Go.Sx
set_option maxRecDepth 20000
set_option linter.unusedSimpArgs false
set_option linter.unusedVariables false
set_option maxHeartbeats 4000000
set_option linter.unusedVariables false
theorem pdboolF {p : Prop} {_ : Decidable p} (h : ¬ p) : AV.bool false = .bool (decide p) := by rw [decide_eq_false h]
section
variable (F : Heap)
theorem refsame26_c : ∀ (n : Nat) (p q : Pd.T) (u w : Value), Pd.size p ≤ n → Pd.size p ≤ 4611686018427387904 → Pd.size q ≤ 4611686018427387904 → Pd.Row F u p.l → Pd.Row F w q.l →
    NCall Tryz.prog 44 [.agg (Pd.cs p u), .agg (Pd.cs q w)] [hpB F] fun r m => r = .bool (Pd.same p q) ∧ m = [hpB F]
  | 0, p, q, u, w, hn, _, _, _, _ => absurd (Pd.size_pos p) (by omega)
  | n + 1, ⟨k, f, v, a⟩, ⟨k', f', v', b⟩, u, w, hn, hs, hs', hv, hw => by
    refine NCall.fits (K := fun r m => r = .bool (Pd.same (.mk k f v a) (.mk k' f' v' b)) ∧ MemFits m [hpB F]) ?_ fun r m' h => ⟨r, _, rfl, h.2, h.1, rfl⟩
    have hv : Pd.Row F u a := hv
    have hw : Pd.Row F w b := hw
    have e : Pd.same (.mk k f v a) (.mk k' f' v' b) = (decide (k = k') && decide (f = f') && decide (v = v') && Pd.sameL a b) := by rw [Pd.same]
    have e2 : Pd.size (.mk k f v a) = 1 + Pd.sizeL a := by rw [Pd.size]
    have e3 : Pd.size (.mk k' f' v' b) = 1 + Pd.sizeL b := by rw [Pd.size]
    have hll := Pd.length_le a
    have hll' := Pd.length_le b
    have hg : ∀ x ∈ a, ∀ y ∈ b, ∀ A B, Pd.Row F A x.l → Pd.Row F B y.l → _ := fun x hx y hy A B hA hB => refsame26_c n x y A B (by have := Pd.size_lt (k := k) (f := f) (v := v) hx; omega) (by have := Pd.size_lt (k := k) (f := f) (v := v) hx; omega) (by have := Pd.size_lt (k := k') (f := f') (v := v') hy; omega) hA hB
    have hok := hv.ok
    have hok2 := hw.ok
    have hs := Pd.sameL_iff a b
    rw [e]
    refine ncall_of Tryz.func44 rfl (by decide) ?_
    rw [pd_cs, pd_cs]
    by_cases h1 : (k = k' ∧ f = f' ∧ v = v') ∧ a.length = b.length
    · obtain ⟨⟨rfl, rfl, rfl⟩, hl⟩ := h1
      simp only [decide_true, Bool.true_and]
      repeat' first|((first|intro A B hA hB|intro K hK|skip);first|((with_reducible refine NIf.yes ?s ?_);(case s=>simp ;done);(conv=>whnf))|((with_reducible refine NIf.no ?s ?_);(case s=>simp ;done);(conv=>whnf)))|(refine sxZ ?_;(try clear hK K);try clear hA hB A B)|refine sxW ?_ ?_<;>intro _|(intro K hK _;(conv=>whnf))
      refine st_auto (α := Nat) (fun k => k ≤ a.length ∧ ∀ (j : Nat) (x y : Pd.T), j < k → a[j]? = some x → b[j]? = some y → Pd.same x y = true) (fun k => [.keep, .keep, .keep, .keep, .drop, .set (.int .i64 k), .keep, .keep, .keep, .keep, .keep, .keep, .keep, .keep, .keep, .keep, .keep, .keep, .keep, .keep, .keep, .keep, .keep, .keep, .keep, .keep, .keep, .keep, .keep, .keep, .keep, .keep, .keep, .keep, .drop, .drop, .drop, .drop, .drop, .drop, .drop, .drop, .drop, .drop, .drop, .drop, .drop, .drop, .drop, .drop, .drop, .drop, .drop]) (fun _ => []) (fun k => a.length - k) 0 ⟨Nat.zero_le _, fun j x y hj => absurd hj (Nat.not_lt_zero _)⟩ ?_ (MemFits.eq rfl) ?_
      · exact fitsGo
      (intro i ⟨hk, hgone⟩; intro K hK; (conv=>whnf); refine hK _ _ ?_; clear hK K)
      by_cases hlt : i < a.length
      · have hx : a[i]? = some a[i] := List.getElem?_eq_getElem hlt
        have hy : b[i]? = some (b[i]'(by omega)) := List.getElem?_eq_getElem (by omega)
        obtain ⟨A, cap, hA, c0, c1, c2, c3⟩ := hv.get hx
        obtain ⟨B, cap', hB, d0, d1, d2, d3⟩ := hw.get hy
        have c := hg _ (List.mem_of_getElem? hx) _ (List.mem_of_getElem? hy) _ _ hA hB
        generalize a[i] = x at *
        generalize (b[i]'(by omega)) = y at *
        simp only [Pd.cs] at c
        by_cases hq : Pd.same x y = true
        · rw [hq] at c
          repeat' first|(intro K hK;(with_reducible refine gC ?_);refine cS [0] c ?_)|(refine sxZK [] ?_;try clear hK K)|refine sxW ?_ ?_<;>intro _|refine sxVK ?_ ?_|(intro K hK _;(conv=>whnf))
          refine st_round (i + 1) ⟨hlt, fun j x' y' hj h1 h2 => ?_⟩ (by omega) ?_ (MemFits.eq rfl)
          · by_cases e : j = i
            · subst e
              rw [hx] at h1
              rw [hy] at h2
              injection h1 with h1
              injection h2 with h2
              rw [← h1, ← h2]; exact hq
            · exact hgone j x' y' (by omega) h1 h2
          · exact fitsGo
        · have hqf : Pd.same x y = false := by simpa using hq
          rw [hqf] at c
          have hne : Pd.sameL a b = false := by
            cases h : Pd.sameL a b with
            | false => rfl
            | true => exact (hq ((hs.1 h).2 i x y hx hy)).elim
          rw [hne]
          repeat' first|(intro K hK;(with_reducible refine gC ?_);refine cS [0] c ?_)|(refine sxZK [] ?_;try clear hK K)|refine sxW ?_ ?_<;>intro _|refine sxVK ?_ ?_|(intro K hK _;(conv=>whnf))
          all_goals exact ⟨rfl, MemFits.pre 1 rfl⟩
      · have hy : Pd.sameL a b = true := hs.2 ⟨hl, fun j x y h1 h2 => hgone j x y (by have := (List.getElem?_eq_some_iff.1 h1).1; omega) h1 h2⟩
        rw [hy]
        repeat' first|(refine sxZ ?_;try clear hK K)|refine sxW ?_ ?_<;>intro _|(intro K hK _;(conv=>whnf))
        all_goals exact ⟨rfl, MemFits.pre 1 rfl⟩
    · have hne : (decide (k = k') && decide (f = f') && decide (v = v') && Pd.sameL a b) = false := by
        cases h : (decide (k = k') && decide (f = f') && decide (v = v') && Pd.sameL a b) with
        | false => rfl
        | true =>
          simp only [Bool.and_eq_true, decide_eq_true_eq] at h
          exact (h1 ⟨⟨h.1.1.1, h.1.1.2, h.1.2⟩, (hs.1 h.2).1⟩).elim
      rw [hne]
      repeat' first|(refine sxZ ?_;try clear hK K)|refine sxW ?_ ?_<;>intro _|(intro K hK _;(conv=>whnf))
      all_goals first
        | exact ⟨rfl, MemFits.pre 1 rfl⟩
        | (exfalso; exact h1 ⟨⟨by omega, by omega, by omega⟩, by omega⟩)
theorem shape26_c (k f v : Int) (l : List Pd.T) (u : Value) (hu : Pd.Row F u l) : NCall Tryz.prog 143 [.agg (Pd.cs (.mk k f v l) u)] [hpB F] fun r m => r = .bool (Pd.shape k f v l.length) ∧ m = [hpB F] := by
  refine NCall.fits (K := fun r m => r = .bool (Pd.shape k f v l.length) ∧ MemFits m [hpB F]) ?_ fun r m' h => ⟨r, _, rfl, h.2, h.1, rfl⟩
  have hok := hu.ok
  have ct := top26_c f
  refine ncall_of Tryz.func143 rfl (by decide) ?_
  rw [pd_cs]
  unfold Pd.shape
  generalize Pd.top f = tf at *
  by_cases h3 : k = 3
  · subst h3
    repeat' first|(intro K hK;(with_reducible refine gC ?_);refine cP ct ?_)|(refine sxZK [] ?_;try clear hK K)|refine sxW ?_ ?_<;>intro _|refine sxVK ?_ ?_|(intro K hK _;(conv=>whnf))
    all_goals first
      | exact ⟨pdboolF (by omega), MemFits.pre 1 rfl⟩
      | exact ⟨pdboolT (by omega), MemFits.pre 1 rfl⟩
      | (refine ⟨?_, MemFits.pre 1 rfl⟩; congr 1; apply decide_eq_decide.2; omega)
  · repeat' first|(intro K hK;(with_reducible refine gC ?_);refine cP ct ?_)|(refine sxZK [] ?_;try clear hK K)|refine sxW ?_ ?_<;>intro _|refine sxVK ?_ ?_|(intro K hK _;(conv=>whnf))
    all_goals first
      | exact ⟨pdboolF (by omega), MemFits.pre 1 rfl⟩
      | exact ⟨pdboolT (by omega), MemFits.pre 1 rfl⟩
      | (refine ⟨?_, MemFits.pre 1 rfl⟩; congr 1; apply decide_eq_decide.2; omega)
      | (exfalso; omega)
theorem index26_c (q : Pd.T → Bool) (v : Value) (l : List Pd.T) (hv : Pd.Row F v l) (hn : l.length ≤ 4611686018427387904) (g : FuncId) (first captured : List AV)
    (hg : ∀ x ∈ l, ∀ A, Pd.Row F A x.l → NCall Tryz.prog g (first ++ [.agg (Pd.cs x A)] ++ captured) [hpB F] fun r m => r = .bool (q x) ∧ m = [hpB F]) :
    NCall Tryz.prog 138 [.hs v l.length, .fn g first captured] [hpB F] fun r m => (∃ j : Int, r = .int .i64 j ∧ (0 ≤ j ↔ l.any q = true)) ∧ m = [hpB F] := by
  have hok := hv.ok
  refine ncall_of Tryz.func138 rfl (by decide) ?_
  repeat' first|(refine sxZ ?_;try clear hK K)|refine sxW ?_ ?_<;>intro _|(intro K hK _;(conv=>whnf))
  refine st_auto (α := Nat) (fun k => k ≤ l.length ∧ ∀ (j : Nat) (x : Pd.T), j < k → l[j]? = some x → q x = false) (fun k => [.keep, .keep, .keep, .keep, .drop, .drop, .keep, .keep, .set (.int .i64 k), .drop, .drop, .drop, .drop, .drop, .drop, .drop, .drop, .drop, .drop]) (fun _ => []) (fun k => l.length - k) 0 ⟨Nat.zero_le _, fun j x hj => absurd hj (Nat.not_lt_zero _)⟩ ?_ (MemFits.eq rfl) ?_
  · exact fitsGo
  (intro k ⟨hk, hgone⟩; intro K hK; (conv=>whnf); refine hK _ _ ?_; clear hK K)
  by_cases hlt : k < l.length
  · have hx : l[k]? = some l[k] := List.getElem?_eq_getElem hlt
    obtain ⟨A, cap, hA, c0, c1, c2, c3⟩ := hv.get hx
    have hmem := List.mem_of_getElem? hx
    have c := hg _ hmem _ hA
    generalize l[k] = x at *
    simp only [Pd.cs] at c
    cases hq : q x with
    | false =>
      rw [hq] at c
      repeat' first|(intro K hK;(with_reducible refine gC ?_);refine cS [0] c ?_)|(refine sxZ ?_;try clear hK K)|refine sxW ?_ ?_<;>intro _|(intro K hK _;(conv=>whnf))
      refine st_round (k + 1) ⟨hlt, fun j y hj hy => ?_⟩ (by omega) ?_ (MemFits.eq rfl)
      · by_cases e : j = k
        · subst e
          rw [hx] at hy
          injection hy with hy
          rw [← hy]; exact hq
        · exact hgone j y (by omega) hy
      · exact fitsGo
    | true =>
      rw [hq] at c
      repeat' first|(intro K hK;(with_reducible refine gC ?_);refine cS [0] c ?_)|(refine sxZ ?_;try clear hK K)|refine sxW ?_ ?_<;>intro _|(intro K hK _;(conv=>whnf))
      exact ⟨⟨_, rfl, ⟨fun _ => List.any_eq_true.2 ⟨x, hmem, hq⟩, fun _ => by omega⟩⟩, rfl⟩
  · have hno : ¬ l.any q = true := fun h => by
      obtain ⟨x, hx, hq⟩ := List.any_eq_true.1 h
      obtain ⟨j, hj, e⟩ := List.getElem_of_mem hx
      have := hgone j x (by omega) (by rw [← e]; exact List.getElem?_eq_getElem hj)
      rw [this] at hq
      cases hq
    repeat' first|(refine sxZ ?_;try clear hK K)|refine sxW ?_ ?_<;>intro _|(intro K hK _;(conv=>whnf))
    exact ⟨⟨_, rfl, ⟨fun h => by omega, fun h => (hno h).elim⟩⟩, rfl⟩
theorem contains26_c (q : Pd.T → Bool) (v : Value) (l : List Pd.T) (hv : Pd.Row F v l) (hn : l.length ≤ 4611686018427387904) (g : FuncId) (first captured : List AV)
    (hg : ∀ x ∈ l, ∀ A, Pd.Row F A x.l → NCall Tryz.prog g (first ++ [.agg (Pd.cs x A)] ++ captured) [hpB F] fun r m => r = .bool (q x) ∧ m = [hpB F]) :
    NCall Tryz.prog 113 [.hs v l.length, .fn g first captured] [hpB F] fun r m => r = .bool (l.any q) ∧ m = [hpB F] := by
  have hi := index26_c F q v l hv hn g first captured hg
  refine ncall_of Tryz.func113 rfl (by decide) ?_
  repeat' first|(intro K hK;(with_reducible refine gC ?_);(refine cN [0] hi ?_;rintro _ _ ⟨⟨j, rfl, hj⟩, rfl⟩;refine cR ?_))|(refine sxZ ?_;try clear hK K)|refine sxW ?_ ?_<;>intro _|(intro K hK _;(conv=>whnf))
  all_goals
    refine ⟨?_, rfl⟩
    congr 1
    by_cases h : 0 ≤ j
    · rw [hj.1 h]; exact decide_eq_true h
    · rw [show l.any q = false by cases e : l.any q with | false => rfl | true => exact (h (hj.2 e)).elim]; exact decide_eq_false h
end
end Go.Proofs.YtngodakgbldlpaaGreatDoor


