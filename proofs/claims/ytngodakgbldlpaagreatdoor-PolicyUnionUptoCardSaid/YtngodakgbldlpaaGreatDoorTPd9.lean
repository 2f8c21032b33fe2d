/-
  Conditions: for which packets they hold.
-/
import Derived.Test.YtngodakgbldlpaaGreatDoorTPd6
namespace Go.Proofs.YtngodakgbldlpaaGreatDoor
open Go.Sx
set_option maxRecDepth 20000
set_option linter.unusedSimpArgs false
set_option linter.unusedVariables false
set_option maxHeartbeats 4000000
set_option linter.unusedVariables false
namespace Pd
/-- A place's cells. -/
def At.av (x : At) : List AV := [.int .i64 x.sw, .int .i64 x.port, .int .i64 x.p0, .int .i64 x.p1, .int .i64 x.p2, .int .i64 x.p3]
def At.pk (x : At) : List AV := [.int .i64 x.p0, .int .i64 x.p1, .int .i64 x.p2, .int .i64 x.p3]
theorem any_not (x : At) (l : List T) : (l.any fun p => !hits x p) = !hitsAll x l := by
  induction l with
  | nil => rfl
  | cons p l ih => rw [List.any_cons, ih, hitsAll]; cases hits x p <;> simp
theorem any_hits (x : At) (l : List T) : (l.any fun p => hits x p) = !hitsNone x l := by
  induction l with
  | nil => rfl
  | cons p l ih => rw [List.any_cons, ih, hitsNone]; cases hits x p <;> simp
theorem hits_1 (x : At) (f v : Int) (l : List T) : hits x (.mk 1 f v l) = true := by rw [hits.eq_def]; simp
theorem hits_3 (x : At) (f v : Int) (l : List T) : hits x (.mk 3 f v l) = decide ((0 ≤ f ∧ f ≤ 5) ∧ get f x = v) := by rw [hits.eq_def]; simp
theorem hits_4n (x : At) (f v : Int) : hits x (.mk 4 f v []) = false := by rw [hits.eq_def]; simp
theorem hits_4 (x : At) (f v : Int) (q : T) (l : List T) : hits x (.mk 4 f v (q :: l)) = !hits x q := by rw [hits.eq_def]; simp [hits1]
theorem hits_5 (x : At) (f v : Int) (l : List T) : hits x (.mk 5 f v l) = hitsAll x l := by rw [hits.eq_def]; simp
theorem hits_6 (x : At) (f v : Int) (l : List T) : hits x (.mk 6 f v l) = !hitsNone x l := by rw [hits.eq_def]; simp
theorem hits_no (x : At) (k f v : Int) (l : List T) (h : ¬ (k = 1 ∨ k = 3 ∨ k = 4 ∨ k = 5 ∨ k = 6)) : hits x (.mk k f v l) = false := by
  rw [hits.eq_def]
  simp only [not_or] at h
  simp [h.1, h.2.1, h.2.2.1, h.2.2.2.1, h.2.2.2.2]
end Pd
/-- Cells that lie there. -/
def PdAt (F : Heap) (b : Addr) (x : Pd.At) : Prop := F.c (b.add 0) (.int .i64 x.sw) ∧ F.c (b.add 1) (.int .i64 x.port) ∧ F.c (b.add 2) (.int .i64 x.p0) ∧ F.c (b.add 3) (.int .i64 x.p1) ∧ F.c (b.add 4) (.int .i64 x.p2) ∧ F.c (b.add 5) (.int .i64 x.p3)
theorem hits26_c : ∀ (n : Nat) (F : Heap) (x : Pd.At) (p : Pd.T) (u : Value), Pd.size p ≤ n → Pd.size p ≤ 4611686018427387904 → Pd.Row F u p.l →
    NCall Tryz.prog 87 [.agg x.av, .agg (Pd.cs p u)] [hpB F] fun r m => r = .bool (Pd.hits x p) ∧ m = [hpB F]
  | 0, F, x, p, u, hn, _, _ => absurd (Pd.size_pos p) (by omega)
  | n + 1, F, x, ⟨k, f, v, l⟩, u, hn, hs, hu => by
    refine NCall.fits (K := fun r m => r = .bool (Pd.hits x (.mk k f v l)) ∧ MemFits m [hpB F]) ?_ fun r m' h => ⟨r, _, rfl, h.2, h.1, rfl⟩
    have hu : Pd.Row F u l := hu
    have hok := hu.ok
    have hll := Pd.length_le l
    have e2 : Pd.size (.mk k f v l) = 1 + Pd.sizeL l := by rw [Pd.size]
    have ih : ∀ G y, y ∈ l → ∀ A, Pd.Row G A y.l → NCall Tryz.prog 87 [.agg x.av, .agg (Pd.cs y A)] [hpB G] fun r m => r = .bool (Pd.hits x y) ∧ m = [hpB G] := fun G y hy A hA => hits26_c n G x y A (by have := Pd.size_lt (k := k) (f := f) (v := v) hy; omega) (by have := Pd.size_lt (k := k) (f := f) (v := v) hy; omega) hA
    -- Or: the method's value
    have cor := contains26_c F (fun y => Pd.hits x y) u l hu (by omega) 87 [.agg x.av] [] fun y hy A hA => ih F y hy A hA
    rw [Pd.any_hits] at cor
    -- And: the closure, over a place that lies among what is read alone
    have cand : ∀ b : Addr, NCall Tryz.prog 113 [.hs u l.length, .fn 114 [] [.ptr 1 b 0]] [hpB F, ⟨b, x.av, .var 122⟩] fun r m => r = .bool (!Pd.hitsAll x l) ∧ m = [hpB F, ⟨b, x.av, .var 122⟩] := fun b => by
      have hle : F.le (addF F b (denL x.av)) := addF.old
      have hat : PdAt (addF F b (denL x.av)) b x := by
        have := addF.new (F := F) (a := b) (vs := denL x.av)
        obtain ⟨c0, c1, c2, c3, c4, c5, _⟩ := this
        exact ⟨c0, c1, c2, c3, c4, c5⟩
      obtain ⟨c0, c1, c2, c3, c4, c5⟩ := hat
      have c := contains26_c (addF F b (denL x.av)) (fun y => !Pd.hits x y) u l (Pd.Row.mono hle hu) (by omega) 114 [] [.hp b 0] fun y hy A hA => by
        have cy := ih _ y hy A hA
        generalize addF F b (denL x.av) = G at *
        refine NCall.fits (K := fun r m => r = .bool (!Pd.hits x y) ∧ MemFits m [hpB G]) ?_ fun r m' h => ⟨r, _, rfl, h.2, h.1, rfl⟩
        generalize Pd.hits x y = hb at *
        obtain ⟨yk, yf, yv, yl⟩ := y
        rw [pd_cs] at *
        obtain ⟨sw, port, p0, p1, p2, p3⟩ := x
        simp only [Pd.At.av] at *
        refine ncall_of Tryz.func114 rfl (by decide) ?_
        repeat' first|(intro K hK;(with_reducible refine gC ?_);refine cS [0] cy ?_)|(refine sxZ ?_;try clear hK K)|refine sxW ?_ ?_<;>intro _|(intro K hK _;(conv=>whnf))
        all_goals exact ⟨rfl, MemFits.pre 1 rfl⟩
      rw [Pd.any_not] at c
      exact NCall.keep c rfl MemFits.freezeVar rfl fun r mL' h => ⟨r, rfl, h.1, rfl⟩
    have hget := get26_c f x
    clear ih
    have ih0 : ∀ y, l[0]? = some y → ∀ A, Pd.Row F A y.l → NCall Tryz.prog 87 [.agg x.av, .agg (Pd.cs y A)] [hpB F] fun r m => r = .bool (Pd.hits x y) ∧ m = [hpB F] := fun y hy A hA => hits26_c n F x y A (by have := Pd.size_lt (k := k) (f := f) (v := v) (List.mem_of_getElem? hy); omega) (by have := Pd.size_lt (k := k) (f := f) (v := v) (List.mem_of_getElem? hy); omega) hA
    refine ncall_of Tryz.func87 rfl (by decide) ?_
    rw [pd_cs]
    by_cases h1 : k = 1
    · subst h1
      rw [Pd.hits_1]
      obtain ⟨sw, port, p0, p1, p2, p3⟩ := x
      simp only [Pd.At.av] at *
      repeat' first|(refine sxZ ?_;try clear hK K)|refine sxW ?_ ?_<;>intro _|(intro K hK _;(conv=>whnf))
      all_goals exact ⟨rfl, MemFits.pre 1 rfl⟩
    by_cases h3 : k = 3
    · subst h3
      rw [Pd.hits_3]
      clear cor cand ih0
      generalize hgv : Pd.get f x = gv at *
      obtain ⟨sw, port, p0, p1, p2, p3⟩ := x
      simp only [Pd.At.av] at *
      by_cases hr : 0 ≤ f ∧ f ≤ 5
      · by_cases hv : gv = v
        · rw [decide_eq_true ⟨hr, hv⟩]
          subst hv
          repeat' first|((try intro K hK);(with_reducible refine gC ?_);refine cP hget ?_)|((first|intro A B hA hB|intro K hK|skip);first|((with_reducible refine NIf.yes ?s ?_);(case s=>simp ;done);(conv=>whnf))|((with_reducible refine NIf.no ?s ?_);(case s=>simp ;done);(conv=>whnf)))|(refine sxZK [] ?_;(try clear hK K);try clear hA hB A B)|refine sxW ?_ ?_<;>intro _|refine sxVK ?_ ?_|(intro K hK _;(conv=>whnf))
          all_goals exact ⟨by simp, MemFits.pre 1 rfl⟩
        · rw [decide_eq_false (fun h => hv h.2)]
          repeat' first|((try intro K hK);(with_reducible refine gC ?_);refine cP hget ?_)|((first|intro A B hA hB|intro K hK|skip);first|((with_reducible refine NIf.yes ?s ?_);(case s=>simp [hv];done);(conv=>whnf))|((with_reducible refine NIf.no ?s ?_);(case s=>simp [hv];done);(conv=>whnf)))|(refine sxZK [] ?_;(try clear hK K);try clear hA hB A B)|refine sxW ?_ ?_<;>intro _|refine sxVK ?_ ?_|(intro K hK _;(conv=>whnf))
          all_goals exact ⟨by simp [hv], MemFits.pre 1 rfl⟩
      · rw [decide_eq_false (fun h => hr h.1)]
        repeat' first|(intro K hK;(with_reducible refine gC ?_);refine cP hget ?_)|(refine sxZK [] ?_;try clear hK K)|refine sxW ?_ ?_<;>intro _|refine sxVK ?_ ?_|(intro K hK _;(conv=>whnf))
        all_goals exact ⟨by simp, MemFits.pre 1 rfl⟩
    by_cases h4 : k = 4
    · subst h4
      clear cor cand
      cases l with
      | nil =>
        rw [Pd.hits_4n]
        obtain ⟨sw, port, p0, p1, p2, p3⟩ := x
        simp only [Pd.At.av, List.length_nil] at *
        repeat' first|(refine sxZK [] ?_;try clear hK K)|refine sxW ?_ ?_<;>intro _|refine sxVK ?_ ?_|(intro K hK _;(conv=>whnf))
        all_goals first
          | exact ⟨rfl, MemFits.pre 1 rfl⟩
          | (exfalso; omega)
      | cons q l =>
        rw [Pd.hits_4]
        obtain ⟨A, cap, hA, c0, c1, c2, c3⟩ := hu.get (i := 0) (x := q) rfl
        have c := ih0 q rfl _ hA
        clear ih0
        generalize Pd.hits x q = hb at *
        simp only [Pd.cs] at c
        generalize hln : (q :: l).length = ln at *
        have hpos : 0 < ln := by rw [← hln]; simp
        obtain ⟨sw, port, p0, p1, p2, p3⟩ := x
        simp only [Pd.At.av] at *
        repeat' first|(intro K hK;(with_reducible refine gC ?_);refine cS [0] c ?_)|(refine sxZK [] ?_;try clear hK K)|refine sxW ?_ ?_<;>intro _|refine sxVK ?_ ?_|(intro K hK _;(conv=>whnf))
        all_goals first
          | exact ⟨rfl, MemFits.pre 1 rfl⟩
          | (exfalso; omega)
    by_cases h5 : k = 5
    · subst h5
      rw [Pd.hits_5]
      clear cor ih0
      generalize Pd.hitsAll x l = hb at *
      obtain ⟨sw, port, p0, p1, p2, p3⟩ := x
      simp only [Pd.At.av] at *
      repeat' first|(intro K hK;(with_reducible refine gC ?_);refine cS [0, 1] (cand _) ?_)|(refine sxZ ?_;try clear hK K)|refine sxW ?_ ?_<;>intro _|(intro K hK _;(conv=>whnf))
      all_goals exact ⟨by cases hb <;> rfl, MemFits.pre 1 rfl⟩
    by_cases h6 : k = 6
    · subst h6
      rw [Pd.hits_6]
      clear cand ih0
      generalize Pd.hitsNone x l = hb at *
      obtain ⟨sw, port, p0, p1, p2, p3⟩ := x
      simp only [Pd.At.av] at *
      repeat' first|(intro K hK;(with_reducible refine gC ?_);refine cS [0] cor ?_)|(refine sxZ ?_;try clear hK K)|refine sxW ?_ ?_<;>intro _|(intro K hK _;(conv=>whnf))
      all_goals exact ⟨rfl, MemFits.pre 1 rfl⟩
    rw [Pd.hits_no x k f v l (by omega)]
    clear cor cand ih0
    obtain ⟨sw, port, p0, p1, p2, p3⟩ := x
    simp only [Pd.At.av] at *
    repeat' first|(refine sxZ ?_;try clear hK K)|refine sxW ?_ ?_<;>intro _|(intro K hK _;(conv=>whnf))
    all_goals first
      | exact ⟨rfl, MemFits.pre 1 rfl⟩
      | (exfalso; omega)
end Go.Proofs.YtngodakgbldlpaaGreatDoor


