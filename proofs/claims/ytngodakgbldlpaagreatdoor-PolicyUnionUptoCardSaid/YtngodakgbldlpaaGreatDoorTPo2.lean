/-
  Policies in memory.
-/
import Derived.Test.YtngodakgbldlpaaGreatDoorTJ1
import Derived.Test.YtngodakgbldlpaaGreatDoorTPd3
namespace Go.Proofs.YtngodakgbldlpaaGreatDoor
open Go.Sx
set_option maxRecDepth 20000
set_option linter.unusedSimpArgs false
set_option linter.unusedVariables false
set_option maxHeartbeats 2000000
set_option linter.unusedVariables false
namespace Po
/-- A policy's cells among what is read alone. -/
inductive R (F : Heap) : T → List Value → Prop where
  | mk (k : Int) (p : Pd.T) (f v : Int) (l : List T) (pA : Option Addr) (pcap : Nat) (hp : Pd.Row F (.slice pA p.l.length pcap) p.l) (A : Option Addr) (cap : Nat) (g : Nat → List Value) (hs : SlOk (.slice A l.length cap) l.length) (h1 : ∀ (i : Nat) (x : T), l[i]? = some x → R F x (g i))
      (h2 : ∀ i, i < l.length → (g i).length = 8 ∧ CellsF F (addrOf (.slice A l.length cap)) (i * 8) (g i)) :
      R F (.mk k p f v l) [.int .i64 k, .int .i64 p.k, .int .i64 p.f, .int .i64 p.v, .slice pA p.l.length pcap, .int .i64 f, .int .i64 v, .slice A l.length cap]
abbrev Row (F : Heap) (v : Value) (l : List T) : Prop := RowF F 8 (R F) v l
/-- Where a policy's parts lie: its condition's, its own. -/
structure At (F : Heap) (x : T) (pu u : Value) : Prop where
  p : Pd.Row F pu x.p.l
  l : Row F u x.l
def cs (x : T) (pu u : Value) : List AV := [.int .i64 x.k, .int .i64 x.p.k, .int .i64 x.p.f, .int .i64 x.p.v, .hs pu x.p.l.length, .int .i64 x.f, .int .i64 x.v, .hs u x.l.length]
theorem R.inv {F : Heap} {x : T} {us : List Value} (h : R F x us) : ∃ pA pcap A cap, At F x (.slice pA x.p.l.length pcap) (.slice A x.l.length cap) ∧
    us = [.int .i64 x.k, .int .i64 x.p.k, .int .i64 x.p.f, .int .i64 x.p.v, .slice pA x.p.l.length pcap, .int .i64 x.f, .int .i64 x.v, .slice A x.l.length cap] := by
  cases h with
  | mk k p f v l pA pcap hp A cap g hs h1 h2 => exact ⟨pA, pcap, A, cap, ⟨hp, ⟨hs, fun i x hx => ⟨g i, h1 i x hx, (h2 i (List.getElem?_eq_some_iff.1 hx).1).1, (h2 i (List.getElem?_eq_some_iff.1 hx).1).2⟩⟩⟩, rfl⟩
theorem R.of {F : Heap} {x : T} {pA A : Option Addr} {pcap cap : Nat} (h : At F x (.slice pA x.p.l.length pcap) (.slice A x.l.length cap)) :
    R F x [.int .i64 x.k, .int .i64 x.p.k, .int .i64 x.p.f, .int .i64 x.p.v, .slice pA x.p.l.length pcap, .int .i64 x.f, .int .i64 x.v, .slice A x.l.length cap] := by
  obtain ⟨k, p, f, v, l⟩ := x
  obtain ⟨hp, h⟩ := h
  have h : Row F (.slice A l.length cap) l := h
  have hg : ∀ i : Nat, ∃ g : List Value, ∀ x, l[i]? = some x → R F x g ∧ g.length = 8 ∧ CellsF F (addrOf (.slice A l.length cap)) (i * 8) g := fun i => by
    cases hx : l[i]? with
    | none => exact ⟨[], fun x e => by cases e⟩
    | some x =>
      obtain ⟨g, h1, h2, h3⟩ := h.at_ i x hx
      exact ⟨g, fun y e => by cases e; exact ⟨h1, h2, h3⟩⟩
  refine R.mk k p f v l pA pcap hp A cap (fun i => Classical.choose (hg i)) h.ok (fun i x hx => (Classical.choose_spec (hg i) x hx).1) fun i hi => ?_
  have := Classical.choose_spec (hg i) l[i] (List.getElem?_eq_getElem hi)
  exact ⟨this.2.1, this.2.2⟩
theorem R.mono {F G : Heap} (h : F.le G) {p : T} {us : List Value} (hp : R F p us) : R G p us := by
  induction hp with
  | mk k p f v l pA pcap hp A cap g hs _ h2 ih => exact R.mk k p f v l pA pcap (Pd.Row.mono h hp) A cap g hs ih fun i hi => ⟨(h2 i hi).1, (h2 i hi).2.mono h⟩
theorem Row.mono {F G : Heap} (h : F.le G) {v : Value} {l : List T} (hv : Row F v l) : Row G v l := RowF.mono h (fun _ _ hp => R.mono h hp) hv
theorem At.mono {F G : Heap} (h : F.le G) {x : T} {pu u : Value} (hx : At F x pu u) : At G x pu u := ⟨Pd.Row.mono h hx.p, Row.mono h hx.l⟩
/-- What lies in a row of policies. -/
structure Cell (F : Heap) (v : Value) (i : Nat) (x : T) (pA : Option Addr) (pcap : Nat) (A : Option Addr) (cap : Nat) : Prop where
  c0 : F.c ((addrOf v).add (i * 8)) (.int .i64 x.k)
  c1 : F.c ((addrOf v).add (i * 8 + 1)) (.int .i64 x.p.k)
  c2 : F.c ((addrOf v).add (i * 8 + 2)) (.int .i64 x.p.f)
  c3 : F.c ((addrOf v).add (i * 8 + 3)) (.int .i64 x.p.v)
  c4 : F.c ((addrOf v).add (i * 8 + 4)) (.slice pA x.p.l.length pcap)
  c5 : F.c ((addrOf v).add (i * 8 + 5)) (.int .i64 x.f)
  c6 : F.c ((addrOf v).add (i * 8 + 6)) (.int .i64 x.v)
  c7 : F.c ((addrOf v).add (i * 8 + 7)) (.slice A x.l.length cap)
theorem Row.get {F : Heap} {v : Value} {l : List T} (h : Row F v l) {i : Nat} {x : T} (hx : l[i]? = some x) : ∃ pA pcap A cap, At F x (.slice pA x.p.l.length pcap) (.slice A x.l.length cap) ∧ Cell F v i x pA pcap A cap := by
  obtain ⟨us, h1, _, h2⟩ := h.at_ i x hx
  obtain ⟨pA, pcap, A, cap, h3, rfl⟩ := h1.inv
  simp only [CellsF, Nat.add_assoc, Nat.reduceAdd] at h2
  obtain ⟨c0, c1, c2, c3, c4, c5, c6, c7, _⟩ := h2
  exact ⟨pA, pcap, A, cap, h3, c0, c1, c2, c3, c4, c5, c6, c7⟩
end Po
theorem po_cs (k : Int) (p : Pd.T) (f v : Int) (l : List Po.T) (pu u : Value) : Po.cs (.mk k p f v l) pu u = [.int .i64 k, .int .i64 p.k, .int .i64 p.f, .int .i64 p.v, .hs pu p.l.length, .int .i64 f, .int .i64 v, .hs u l.length] := rfl
section
variable (F : Heap)
theorem size27_c : ∀ (n : Nat) (x : Po.T) (pu u : Value), Po.tot x ≤ n → Po.tot x ≤ 4611686018427387904 → Po.At F x pu u →
    NCall Tryz.prog 16 [.agg (Po.cs x pu u)] [hpB F] fun r m => r = .int .i64 (Po.size x : Nat) ∧ m = [hpB F]
  | 0, x, pu, u, hn, _, _ => absurd (Po.tot_pos x) (by omega)
  | n + 1, ⟨k, p, f, v, l⟩, pu, u, hn, hs, hx => by
    refine NCall.fits (K := fun r m => r = .int .i64 (Po.size (.mk k p f v l) : Nat) ∧ MemFits m [hpB F]) ?_ fun r m' h => ⟨r, _, rfl, h.2, h.1, rfl⟩
    have hu : Po.Row F u l := hx.l
    have hpu : Pd.Row F pu p.l := hx.p
    have hok := hu.ok
    have hpok := hpu.ok
    have e := Po.tot_mk k p f v l
    have hll := Po.length_le l
    have cp := size26_c F _ p pu (Nat.le_refl _) (by omega) hpu
    have ih : ∀ y ∈ l, ∀ pw w, Po.At F y pw w → _ := fun y hy pw w hw => size27_c n y pw w (by have := Po.tot_lt (k := k) (q := p) (f := f) (v := v) hy; omega) (by have := Po.tot_lt (k := k) (q := p) (f := f) (v := v) hy; omega) hw
    have hsz : Po.size (.mk k p f v l) = 1 + (if k = 2 ∨ k = 3 ∨ k = 4 then 0 else Pd.size p) + Po.sizeL l := by rw [Po.size]
    rw [hsz]
    refine ncall_of Tryz.func16 rfl (by decide) ?_
    rw [po_cs]
    generalize hz : Pd.size p = z at *
    by_cases hk : k = 2 ∨ k = 3 ∨ k = 4
    · rw [if_pos hk, Nat.add_zero]
      rcases hk with rfl | rfl | rfl
      iterate 3
        · repeat' first|(refine sxZ ?_;try clear hK K)|refine sxW ?_ ?_<;>intro _|(intro K hK _;(conv=>whnf))
          refine st_auto (α := Nat) (fun i => i ≤ l.length) (fun i => [.keep, .keep, .keep, .set (.int .i64 (1 + Po.sizeL (l.take i) : Nat)), .keep, .drop, .keep, .keep, .keep, .keep, .keep, .keep, .keep, .keep, .keep, .keep, .keep, .keep, .keep, .keep, .keep, .keep, .keep, .keep, .keep, .keep, .keep, .set (.int .i64 i), .drop, .drop, .drop, .drop, .drop, .drop, .drop, .drop, .keep]) (fun _ => []) (fun i => l.length - i) 0 (Nat.zero_le _) ?_ (MemFits.eq rfl) ?_
          · repeat (first | exact FitsSl.nil | refine FitsSl.any ?_ | refine FitsSl.cons (Fit1.int (by  simp [Po.sizeL])) ?_ | refine FitsSl.cons (Fit1.int (by first | rfl | omega)) ?_ | refine FitsSl.cons (Fit1.bool rfl) ?_ | refine FitsSl.cons (Fit1.str rfl) ?_ | refine FitsSl.cons (Fit1.same (by intro h; cases h) (by with_reducible rfl)) ?_ | refine FitsSl.cons Fit1.nil_sl ?_ | refine FitsSl.cons (Fit1.hs rfl) ?_ | refine FitsSl.cons (Fit1.hp rfl rfl) ?_ | refine FitsSl.cons (Fit1.sl rfl) ?_ | refine FitsSl.cons (Fit1.ptr rfl rfl) ?_ | refine FitsSl.cons Fit1.raw ?_)
          (intro i hi; intro K hK; (conv=>whnf); refine hK _ _ ?_; clear hK K)
          have hle := Po.sizeL_take_le (l := l) (k := i)
          by_cases hlt : i < l.length
          · have hx : l[i]? = some l[i] := List.getElem?_eq_getElem hlt
            obtain ⟨pA, pcap, A, cap, hA, c0, c1, c2, c3, c4, c5, c6, c7⟩ := hu.get hx
            have hmem := List.mem_of_getElem? hx
            have hnx := Po.sizeL_take hlt
            have hle2 := Po.sizeL_take_le (l := l) (k := i + 1)
            have hAo := hA.l.ok
            have hAp := hA.p.ok
            have c := ih _ hmem _ _ hA
            clear ih
            generalize l[i] = y at *
            generalize Po.size y = sx at *
            generalize Po.sizeL (l.take i) = si at *
            obtain ⟨yk, ⟨ypk, ypf, ypv, ypl⟩, yf, yv, yl⟩ := y
            simp only [Po.cs, Po.T.k, Po.T.p, Po.T.f, Po.T.v, Po.T.l, Pd.T.k, Pd.T.f, Pd.T.v, Pd.T.l] at c c0 c1 c2 c3 c4 c5 c6 c7 hAo hAp
            repeat' first|(intro K hK;(with_reducible refine gC ?_);refine cS [0] c ?_)|(refine sxZ ?_;try clear hK K)|refine sxW ?_ ?_<;>intro _|(intro K hK _;(conv=>whnf))
            refine st_round (i + 1) hlt (by omega) ?_ (MemFits.pre 2 rfl)
            repeat (first | exact FitsSl.nil | refine FitsSl.any ?_ | refine FitsSl.cons (Fit1.int (by  omega)) ?_ | refine FitsSl.cons (Fit1.int (by first | rfl | omega)) ?_ | refine FitsSl.cons (Fit1.bool rfl) ?_ | refine FitsSl.cons (Fit1.str rfl) ?_ | refine FitsSl.cons (Fit1.same (by intro h; cases h) (by with_reducible rfl)) ?_ | refine FitsSl.cons Fit1.nil_sl ?_ | refine FitsSl.cons (Fit1.hs rfl) ?_ | refine FitsSl.cons (Fit1.hp rfl rfl) ?_ | refine FitsSl.cons (Fit1.sl rfl) ?_ | refine FitsSl.cons (Fit1.ptr rfl rfl) ?_ | refine FitsSl.cons Fit1.raw ?_)
          · have hkl : i = l.length := by omega
            subst hkl
            rw [List.take_length] at hle ⊢
            clear ih
            repeat' first|(refine sxZ ?_;try clear hK K)|refine sxW ?_ ?_<;>intro _|(intro K hK _;(conv=>whnf))
            all_goals exact ⟨rfl, MemFits.pre 1 rfl⟩
    · rw [if_neg hk]
      obtain ⟨pk, pf, pv, pl⟩ := p
      simp only [pd_cs, Pd.T.k, Pd.T.f, Pd.T.v, Pd.T.l] at *
      repeat' first|(intro K hK;(with_reducible refine gC ?_);refine cS [0] cp ?_)|(refine sxZ ?_;try clear hK K)|refine sxW ?_ ?_<;>intro _|(intro K hK _;(conv=>whnf))
      all_goals first | (exfalso; omega) | skip
      refine st_auto (α := Nat) (fun i => i ≤ l.length) (fun i => [.keep, .keep, .keep, .set (.int .i64 (1 + z + Po.sizeL (l.take i) : Nat)), .keep, .drop, .keep, .keep, .keep, .keep, .keep, .keep, .keep, .keep, .keep, .keep, .keep, .keep, .keep, .keep, .keep, .keep, .keep, .keep, .keep, .keep, .keep, .set (.int .i64 i), .drop, .drop, .drop, .drop, .drop, .drop, .drop, .drop, .keep]) (fun _ => []) (fun i => l.length - i) 0 (Nat.zero_le _) ?_ (MemFits.eq rfl) ?_
      · repeat (first | exact FitsSl.nil | refine FitsSl.any ?_ | refine FitsSl.cons (Fit1.int (by  simp [Po.sizeL])) ?_ | refine FitsSl.cons (Fit1.int (by first | rfl | omega)) ?_ | refine FitsSl.cons (Fit1.bool rfl) ?_ | refine FitsSl.cons (Fit1.str rfl) ?_ | refine FitsSl.cons (Fit1.same (by intro h; cases h) (by with_reducible rfl)) ?_ | refine FitsSl.cons Fit1.nil_sl ?_ | refine FitsSl.cons (Fit1.hs rfl) ?_ | refine FitsSl.cons (Fit1.hp rfl rfl) ?_ | refine FitsSl.cons (Fit1.sl rfl) ?_ | refine FitsSl.cons (Fit1.ptr rfl rfl) ?_ | refine FitsSl.cons Fit1.raw ?_)
      (intro i hi; intro K hK; (conv=>whnf); refine hK _ _ ?_; clear hK K)
      have hle := Po.sizeL_take_le (l := l) (k := i)
      by_cases hlt : i < l.length
      · have hx : l[i]? = some l[i] := List.getElem?_eq_getElem hlt
        obtain ⟨pA, pcap, A, cap, hA, c0, c1, c2, c3, c4, c5, c6, c7⟩ := hu.get hx
        have hmem := List.mem_of_getElem? hx
        have hnx := Po.sizeL_take hlt
        have hle2 := Po.sizeL_take_le (l := l) (k := i + 1)
        have hAo := hA.l.ok
        have hAp := hA.p.ok
        have c := ih _ hmem _ _ hA
        clear ih
        generalize l[i] = y at *
        generalize Po.size y = sx at *
        generalize Po.sizeL (l.take i) = si at *
        obtain ⟨yk, ⟨ypk, ypf, ypv, ypl⟩, yf, yv, yl⟩ := y
        simp only [Po.cs, Po.T.k, Po.T.p, Po.T.f, Po.T.v, Po.T.l, Pd.T.k, Pd.T.f, Pd.T.v, Pd.T.l] at c c0 c1 c2 c3 c4 c5 c6 c7 hAo hAp
        repeat' first|(intro K hK;(with_reducible refine gC ?_);refine cS [0] c ?_)|(refine sxZ ?_;try clear hK K)|refine sxW ?_ ?_<;>intro _|(intro K hK _;(conv=>whnf))
        refine st_round (i + 1) hlt (by omega) ?_ (MemFits.pre 2 rfl)
        repeat (first | exact FitsSl.nil | refine FitsSl.any ?_ | refine FitsSl.cons (Fit1.int (by  omega)) ?_ | refine FitsSl.cons (Fit1.int (by first | rfl | omega)) ?_ | refine FitsSl.cons (Fit1.bool rfl) ?_ | refine FitsSl.cons (Fit1.str rfl) ?_ | refine FitsSl.cons (Fit1.same (by intro h; cases h) (by with_reducible rfl)) ?_ | refine FitsSl.cons Fit1.nil_sl ?_ | refine FitsSl.cons (Fit1.hs rfl) ?_ | refine FitsSl.cons (Fit1.hp rfl rfl) ?_ | refine FitsSl.cons (Fit1.sl rfl) ?_ | refine FitsSl.cons (Fit1.ptr rfl rfl) ?_ | refine FitsSl.cons Fit1.raw ?_)
      · have hkl : i = l.length := by omega
        subst hkl
        rw [List.take_length] at hle ⊢
        clear ih
        repeat' first|(refine sxZ ?_;try clear hK K)|refine sxW ?_ ?_<;>intro _|(intro K hK _;(conv=>whnf))
        all_goals exact ⟨rfl, MemFits.pre 1 rfl⟩
end
end Go.Proofs.YtngodakgbldlpaaGreatDoor


