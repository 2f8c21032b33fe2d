/-
  Conditions in memory; how great, how deep.
-/
import Derived.Test.YtngodakgbldlpaaGreatDoorTPd1p
import Derived.Test.YtngodakgbldlpaaGreatDoorTSxK
import Derived.Test.YtngodakgbldlpaaGreatDoorProg
namespace Go.Proofs.YtngodakgbldlpaaGreatDoor
open Go.Sx
set_option maxRecDepth 20000
set_option linter.unusedSimpArgs false
set_option linter.unusedVariables false
set_option maxHeartbeats 2000000
set_option linter.unusedVariables false
namespace Pd
/-- A condition's cells among what is read alone. -/
inductive R (F : Heap) : T → List Value → Prop where
  | mk (k f v : Int) (l : List T) (A : Option Addr) (cap : Nat) (g : Nat → List Value) (hs : SlOk (.slice A l.length cap) l.length) (h1 : ∀ (i : Nat) (x : T), l[i]? = some x → R F x (g i))
      (h2 : ∀ i, i < l.length → (g i).length = 4 ∧ CellsF F (addrOf (.slice A l.length cap)) (i * 4) (g i)) : R F (.mk k f v l) [.int .i64 k, .int .i64 f, .int .i64 v, .slice A l.length cap]
abbrev Row (F : Heap) (v : Value) (l : List T) : Prop := RowF F 4 (R F) v l
def cs (p : T) (u : Value) : List AV := [.int .i64 p.k, .int .i64 p.f, .int .i64 p.v, .hs u p.l.length]
theorem R.inv {F : Heap} {p : T} {us : List Value} (h : R F p us) : ∃ A cap, Row F (.slice A p.l.length cap) p.l ∧ us = [.int .i64 p.k, .int .i64 p.f, .int .i64 p.v, .slice A p.l.length cap] := by
  cases h with
  | mk k f v l A cap g hs h1 h2 => exact ⟨A, cap, ⟨hs, fun i x hx => ⟨g i, h1 i x hx, (h2 i (List.getElem?_eq_some_iff.1 hx).1).1, (h2 i (List.getElem?_eq_some_iff.1 hx).1).2⟩⟩, rfl⟩
theorem R.of {F : Heap} {p : T} {A : Option Addr} {cap : Nat} (h : Row F (.slice A p.l.length cap) p.l) : R F p [.int .i64 p.k, .int .i64 p.f, .int .i64 p.v, .slice A p.l.length cap] := by
  obtain ⟨k, f, v, l⟩ := p
  have hg : ∀ i : Nat, ∃ g : List Value, ∀ x, l[i]? = some x → R F x g ∧ g.length = 4 ∧ CellsF F (addrOf (.slice A l.length cap)) (i * 4) g := fun i => by
    cases hx : l[i]? with
    | none => exact ⟨[], fun x e => by cases e⟩
    | some x =>
      obtain ⟨g, h1, h2, h3⟩ := h.at_ i x hx
      exact ⟨g, fun y e => by cases e; exact ⟨h1, h2, h3⟩⟩
  refine R.mk k f v l A cap (fun i => Classical.choose (hg i)) h.ok (fun i x hx => (Classical.choose_spec (hg i) x hx).1) fun i hi => ?_
  have := Classical.choose_spec (hg i) l[i] (List.getElem?_eq_getElem hi)
  exact ⟨this.2.1, this.2.2⟩
theorem R.mono {F G : Heap} (h : F.le G) {p : T} {us : List Value} (hp : R F p us) : R G p us := by
  induction hp with
  | mk k f v l A cap g hs _ h2 ih => exact R.mk k f v l A cap g hs ih fun i hi => ⟨(h2 i hi).1, (h2 i hi).2.mono h⟩
theorem Row.mono {F G : Heap} (h : F.le G) {v : Value} {l : List T} (hv : Row F v l) : Row G v l := RowF.mono h (fun _ _ hp => R.mono h hp) hv
theorem Row.get {F : Heap} {v : Value} {l : List T} (h : Row F v l) {i : Nat} {x : T} (hx : l[i]? = some x) : ∃ A cap, Row F (.slice A x.l.length cap) x.l ∧
    (F.c ((addrOf v).add (i * 4)) (.int .i64 x.k) ∧ F.c ((addrOf v).add (i * 4 + 1)) (.int .i64 x.f) ∧ F.c ((addrOf v).add (i * 4 + 2)) (.int .i64 x.v) ∧ F.c ((addrOf v).add (i * 4 + 3)) (.slice A x.l.length cap)) := by
  obtain ⟨us, h1, _, h2⟩ := h.at_ i x hx
  obtain ⟨A, cap, h3, rfl⟩ := h1.inv
  simp only [CellsF, Nat.add_assoc, Nat.reduceAdd] at h2
  obtain ⟨c0, c1, c2, c3, _⟩ := h2
  exact ⟨A, cap, h3, c0, c1, c2, c3⟩
mutual
def in64 : T → Prop
  | .mk k f v l => ((-9223372036854775808 ≤ k ∧ k ≤ 9223372036854775807) ∧ (-9223372036854775808 ≤ f ∧ f ≤ 9223372036854775807) ∧ (-9223372036854775808 ≤ v ∧ v ≤ 9223372036854775807)) ∧ in64L l
def in64L : List T → Prop
  | [] => True
  | p :: l => in64 p ∧ in64L l
end
theorem in64L_iff (l : List T) : in64L l ↔ ∀ p ∈ l, in64 p := by
  induction l with
  | nil => simp [in64L]
  | cons p l ih => simp only [in64L, ih, List.mem_cons, forall_eq_or_imp]
end Pd
section
variable (F : Heap)
theorem size26_c : ∀ (n : Nat) (p : Pd.T) (u : Value), Pd.size p ≤ n → Pd.size p ≤ 4611686018427387904 → Pd.Row F u p.l →
    NCall Tryz.prog 40 [.agg (Pd.cs p u)] [hpB F] fun r m => r = .int .i64 (Pd.size p : Nat) ∧ m = [hpB F]
  | 0, p, u, hn, _, _ => absurd (Pd.size_pos p) (by omega)
  | n + 1, ⟨k, f, v, l⟩, u, hn, hs, hu => by
    refine NCall.fits (K := fun r m => r = .int .i64 (Pd.size (.mk k f v l) : Nat) ∧ MemFits m [hpB F]) ?_ fun r m' h => ⟨r, _, rfl, h.2, h.1, rfl⟩
    have hu : Pd.Row F u l := hu
    have hok := hu.ok
    have e : Pd.size (.mk k f v l) = 1 + Pd.sizeL l := by rw [Pd.size]
    have hll := Pd.length_le l
    have ih : ∀ x ∈ l, ∀ w, Pd.Row F w x.l → _ := fun x hx w hw => size26_c n x w (by have := Pd.size_lt (k := k) (f := f) (v := v) hx; omega) (by have := Pd.size_lt (k := k) (f := f) (v := v) hx; omega) hw
    refine ncall_of Tryz.func40 rfl (by decide) ?_
    show funcK _ _ [.agg [.int .i64 k, .int .i64 f, .int .i64 v, .hs u l.length]] _ _
    repeat' first|(refine sxZ ?_;try clear hK K)|refine sxW ?_ ?_<;>intro _|(intro K hK _;(conv=>whnf))
    refine st_auto (α := Nat) (fun i => i ≤ l.length) (fun i => [.keep, .keep, .keep, .set (.int .i64 (1 + Pd.sizeL (l.take i) : Nat)), .keep, .drop, .keep, .keep, .keep, .set (.int .i64 i), .drop, .drop, .drop, .drop, .drop, .drop, .drop, .drop, .keep]) (fun _ => []) (fun i => l.length - i) 0 (Nat.zero_le _) ?_ (MemFits.eq rfl) ?_
    · repeat (first | exact FitsSl.nil | refine FitsSl.any ?_ | refine FitsSl.cons (Fit1.int (by  simp [Pd.sizeL])) ?_ | refine FitsSl.cons (Fit1.int (by first | rfl | omega)) ?_ | refine FitsSl.cons (Fit1.bool rfl) ?_ | refine FitsSl.cons (Fit1.str rfl) ?_ | refine FitsSl.cons (Fit1.same (by intro h; cases h) (by with_reducible rfl)) ?_ | refine FitsSl.cons Fit1.nil_sl ?_ | refine FitsSl.cons (Fit1.hs rfl) ?_ | refine FitsSl.cons (Fit1.hp rfl rfl) ?_ | refine FitsSl.cons (Fit1.sl rfl) ?_ | refine FitsSl.cons (Fit1.ptr rfl rfl) ?_ | refine FitsSl.cons Fit1.raw ?_)
    (intro i hi; intro K hK; (conv=>whnf); refine hK _ _ ?_; clear hK K)
    have hle := Pd.sizeL_le (l := l) (k := i)
    by_cases hlt : i < l.length
    · have hx : l[i]? = some l[i] := List.getElem?_eq_getElem hlt
      obtain ⟨A, cap, hA, c0, c1, c2, c3⟩ := hu.get hx
      have hmem := List.mem_of_getElem? hx
      have hnx := Pd.sizeL_take hlt
      have hle2 := Pd.sizeL_le (l := l) (k := i + 1)
      have c := ih _ hmem _ hA
      simp only [Pd.cs] at c
      generalize l[i] = x at *
      generalize Pd.size x = sx at *
      generalize Pd.sizeL (l.take i) = si at *
      repeat' first|(intro K hK;(with_reducible refine gC ?_);refine cS [0] c ?_)|(refine sxZ ?_;try clear hK K)|refine sxW ?_ ?_<;>intro _|(intro K hK _;(conv=>whnf))
      refine st_round (i + 1) hlt (by omega) ?_ (MemFits.pre 2 rfl)
      repeat (first | exact FitsSl.nil | refine FitsSl.any ?_ | refine FitsSl.cons (Fit1.int (by  omega)) ?_ | refine FitsSl.cons (Fit1.int (by first | rfl | omega)) ?_ | refine FitsSl.cons (Fit1.bool rfl) ?_ | refine FitsSl.cons (Fit1.str rfl) ?_ | refine FitsSl.cons (Fit1.same (by intro h; cases h) (by with_reducible rfl)) ?_ | refine FitsSl.cons Fit1.nil_sl ?_ | refine FitsSl.cons (Fit1.hs rfl) ?_ | refine FitsSl.cons (Fit1.hp rfl rfl) ?_ | refine FitsSl.cons (Fit1.sl rfl) ?_ | refine FitsSl.cons (Fit1.ptr rfl rfl) ?_ | refine FitsSl.cons Fit1.raw ?_)
    · have hkl : i = l.length := by omega
      subst hkl
      rw [List.take_length] at hle ⊢
      repeat' first|(refine sxZ ?_;try clear hK K)|refine sxW ?_ ?_<;>intro _|(intro K hK _;(conv=>whnf))
      all_goals exact ⟨by rw [e], MemFits.pre 1 rfl⟩
end
end Go.Proofs.YtngodakgbldlpaaGreatDoor


