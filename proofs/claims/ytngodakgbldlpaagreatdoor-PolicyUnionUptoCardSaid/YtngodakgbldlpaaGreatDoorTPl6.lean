/-
  Policies: their text, by the program.
-/
import Derived.Test.YtngodakgbldlpaaGreatDoorTJ8
import Derived.Test.YtngodakgbldlpaaGreatDoorTPo2
import Derived.Test.YtngodakgbldlpaaGreatDoorTPd17
namespace Go.Proofs.YtngodakgbldlpaaGreatDoor
open Go.Sx
set_option maxRecDepth 20000
set_option linter.unusedSimpArgs false
set_option linter.unusedVariables false
set_option maxHeartbeats 4000000
set_option linter.unusedVariables false
theorem inner27_of (F : Heap) (k : Int) (p : Pd.T) (f v : Int) (l : List Po.T) (pu u : Value) (s : List UInt8) (hok : SlOk u l.length) (hpok : SlOk pu p.l.length) (hs : s.length ≤ 4611686018427387904) (h : NCall Tryz.prog 28 [.agg (Po.cs (.mk k p f v l) pu u)] [hpB F] fun r m => r = .str s ∧ m = [hpB F]) :
    NCall Tryz.prog 53 [.agg (Po.cs (.mk k p f v l) pu u)] [hpB F] fun r m => r = .str (Po.innerT k s) ∧ m = [hpB F] := by
  refine NCall.fits (K := fun r m => r = .str (Po.innerT k s) ∧ MemFits m [hpB F]) ?_ fun r m' h => ⟨r, _, rfl, h.2, h.1, rfl⟩
  obtain ⟨pk, pf, pv, pl⟩ := p
  simp only [po_cs, Pd.T.k, Pd.T.f, Pd.T.v, Pd.T.l] at *
  unfold Po.innerT
  refine ncall_of Tryz.func53 rfl (by decide) ?_
  by_cases hk : k = 1 ∨ k = 2
  · rw [if_pos hk]
    rcases hk with rfl | rfl
    all_goals
      repeat' first|(intro K hK;(with_reducible refine gC ?_);refine cS [0] h ?_)|(refine sxZ ?_;try clear hK K)|refine sxW ?_ ?_<;>intro _|(intro K hK _;(conv=>whnf))
      all_goals exact ⟨rfl, MemFits.pre 1 rfl⟩
  · rw [if_neg hk]
    repeat' first|(intro K hK;(with_reducible refine gC ?_);refine cS [0] h ?_)|(refine sxZ ?_;try clear hK K)|refine sxW ?_ ?_<;>intro _|(intro K hK _;(conv=>whnf))
    all_goals first
      | exact ⟨rfl, MemFits.pre 1 rfl⟩
      | (exfalso; omega)
theorem filter27_c (F : Heap) (hF : TabF F) (p : Pd.T) (pu : Value) (hs : Pd.size p ≤ 1000000000) (hf : Pd.fits p = true) (hpu : Pd.Row F pu p.l) :
    NCall Tryz.prog 54 [.agg (Pd.cs p pu)] [hpB F] fun r m => r = .str (Po.filterT p) ∧ m = [hpB F] := by
  refine NCall.fits (K := fun r m => r = .str (Po.filterT p) ∧ MemFits m [hpB F]) ?_ fun r m' h => ⟨r, _, rfl, h.2, h.1, rfl⟩
  have ct := text26_c F hF _ p pu (Nat.le_refl _) hs hf hpu
  have hl := Pd.text_len p hf
  have hpok := hpu.ok
  by_cases h1 : p.k = 1
  · rw [show Po.filterT p = [105, 100] from if_pos h1]
    clear ct hl hpu hf
    obtain ⟨pk, pf, pv, pl⟩ := p
    simp only [pd_cs, Pd.T.k, Pd.T.f, Pd.T.v, Pd.T.l] at *
    subst h1
    refine ncall_of Tryz.func54 rfl (by decide) ?_
    repeat' first|(refine sxZ ?_;try clear hK K)|refine sxW ?_ ?_<;>intro _|(intro K hK _;(conv=>whnf))
    all_goals exact ⟨rfl, MemFits.pre 1 rfl⟩
  by_cases h2 : p.k = 2
  · rw [show Po.filterT p = [100, 114, 111, 112] from (if_neg h1).trans (if_pos h2)]
    clear ct hl hpu hf h1
    obtain ⟨pk, pf, pv, pl⟩ := p
    simp only [pd_cs, Pd.T.k, Pd.T.f, Pd.T.v, Pd.T.l] at *
    subst h2
    refine ncall_of Tryz.func54 rfl (by decide) ?_
    repeat' first|(refine sxZ ?_;try clear hK K)|refine sxW ?_ ?_<;>intro _|(intro K hK _;(conv=>whnf))
    all_goals exact ⟨rfl, MemFits.pre 1 rfl⟩
  rw [show Po.filterT p = [119, 104, 101, 110, 32] ++ Pd.text p from (if_neg h1).trans (if_neg h2)]
  generalize Pd.text p = t at *
  generalize Pd.size p = z at *
  clear hpu hf
  obtain ⟨pk, pf, pv, pl⟩ := p
  simp only [pd_cs, Pd.T.k, Pd.T.f, Pd.T.v, Pd.T.l] at *
  refine ncall_of Tryz.func54 rfl (by decide) ?_
  repeat' first|(intro K hK;(with_reducible refine gC ?_);refine cS [0] ct ?_)|(refine sxZ ?_;try clear hK K)|refine sxW ?_ ?_<;>intro _|(intro K hK _;(conv=>whnf))
  all_goals first
    | exact ⟨rfl, MemFits.pre 1 rfl⟩
    | (exfalso; omega)
theorem text27_2 (F : Heap) (hF : TabF F) (pk pf pv : Int) (pl : List Pd.T) (f v : Int) (pu u : Value) (hok : SlOk u 0) (hpok : SlOk pu pl.length) (hf : 0 ≤ f ∧ f ≤ 4) (hv : 0 ≤ v ∧ v ≤ 255) :
    NCall Tryz.prog 28 [.agg [.int .i64 2, .int .i64 pk, .int .i64 pf, .int .i64 pv, .hs pu pl.length, .int .i64 f, .int .i64 v, .hs u 0]] [hpB F] fun r m => r = .str (Pd.word f ++ ([32, 58, 61, 32] ++ Lib.itoa v)) ∧ MemFits m [hpB F] := by
  have ci := itoa_c F hF v (by omega)
  have hln := Lib.itoa_length_le v (by omega) (by omega)
  generalize Lib.itoa v = s at *
  have : f = 0 ∨ f = 1 ∨ f = 2 ∨ f = 3 ∨ f = 4 := by omega
  refine ncall_of Tryz.func28 rfl (by decide) ?_
  rcases this with rfl | rfl | rfl | rfl | rfl
  all_goals (repeat' first|((try intro K hK);(with_reducible refine gC ?_);refine cS [0] ci ?_)|((with_reducible refine gX ?_);with_reducible refine st_rounds 2 ?_)|(refine sxZK [] ?_;try clear hK K)|refine sxW ?_ ?_<;>intro _|refine sxVK ?_ ?_|(intro K hK _;(conv=>whnf)))
  all_goals exact ⟨by simp [Pd.word], MemFits.pre 1 rfl⟩
theorem text27_c (F : Heap) (hF : TabF F) : ∀ (n : Nat) (x : Po.T) (pu u : Value), Po.tot x ≤ n → Po.tot x ≤ 1000000000 → Po.fits x = true → Po.At F x pu u →
    NCall Tryz.prog 28 [.agg (Po.cs x pu u)] [hpB F] fun r m => r = .str (Po.text x) ∧ m = [hpB F]
  | 0, x, pu, u, hn, _, _, _ => absurd (Po.tot_pos x) (by omega)
  | n + 1, ⟨k, p, f, v, l⟩, pu, u, hn, hs, hf, hx => by
    refine NCall.fits (K := fun r m => r = .str (Po.text (.mk k p f v l)) ∧ MemFits m [hpB F]) ?_ fun r m' h => ⟨r, _, rfl, h.2, h.1, rfl⟩
    have hu : Po.Row F u l := hx.l
    have hpu : Pd.Row F pu p.l := hx.p
    have hok := hu.ok
    have hpok := hpu.ok
    have htl := Po.text_len _ hf
    obtain ⟨hsh, hfl⟩ := Po.fits_iff.1 hf
    have e2 := Po.tot_mk k p f v l
    have hll := Po.length_le l
    have htop := Pd.top_lt f
    rw [e2] at hn hs htl
    by_cases h2 : k = 2
    · subst h2
      have hl0 : l = [] := List.length_eq_zero_iff.1 (by omega)
      subst hl0
      obtain ⟨pk, pf, pv, pl⟩ := p
      have := text27_2 F hF pk pf pv pl f v pu u hok hpok (by omega) (by omega)
      rw [Po.text]
      exact this
    by_cases h1 : k = 1
    · subst h1
      have hr : Pd.right p = true := by
        rcases hsh with h | h | h | h
        · exact h.2.1
        · omega
        · omega
        · omega
      have hl0 : l = [] := List.length_eq_zero_iff.1 (by omega)
      subst hl0
      have cf := filter27_c F hF p pu (by omega) (Po.right_fits hr) hpu
      have hfl := Po.filterT_len p (Po.right_fits hr)
      rw [Po.text, if_pos rfl]
      generalize Po.filterT p = t at *
      clear hx hu hpu hsh htl hr hf
      obtain ⟨pk, pf, pv, pl⟩ := p
      simp only [pd_cs, po_cs, Pd.T.k, Pd.T.f, Pd.T.v, Pd.T.l] at *
      refine ncall_of Tryz.func28 rfl (by decide) ?_
      repeat' first|((try intro K hK);(with_reducible refine gC ?_);refine cS [0] cf ?_)|((with_reducible refine gX ?_);with_reducible refine st_rounds 2 ?_)|(refine sxZ ?_;try clear hK K)|refine sxW ?_ ?_<;>intro _|(intro K hK _;(conv=>whnf))
      all_goals exact ⟨rfl, MemFits.pre 1 rfl⟩
    have hpl := Po.parts_len l
    have ci : ∀ x ∈ l, ∀ pA A, Po.At F x pA A → NCall Tryz.prog 53 [.agg (Po.cs x pA A)] [hpB F] fun r m => r = .str (Po.innerT x.k (Po.text x)) ∧ m = [hpB F] := fun x hx pA A hA => by
      have hlt := Po.tot_lt (k := k) (q := p) (f := f) (v := v) hx
      rw [e2] at hlt
      have := text27_c F hF n x pA A (by omega) (by omega) (hfl x hx) hA
      have hxl := Po.text_len x (hfl x hx)
      obtain ⟨xk, xp, xf, xv, xl⟩ := x
      exact inner27_of F xk xp xf xv xl pA A _ hA.l.ok hA.p.ok (by omega) this
    have hsum := Po.parts_sum l hfl
    have hj3 := Nat.le_trans (Pd.join_le [59, 32] (Po.parts l)) (Pd.sum_le (a := ([59, 32] : List UInt8).length) (b := 6) _ (by decide))
    have hj4 := Nat.le_trans (Pd.join_le [32, 124, 32] (Po.parts l)) (Pd.sum_le (a := ([32, 124, 32] : List UInt8).length) (b := 6) _ (by decide))
    have hj5 := Nat.le_trans (Pd.join_le [32, 101, 108, 115, 101, 32] (Po.parts l)) (Pd.sum_le (a := ([32, 101, 108, 115, 101, 32] : List UInt8).length) (b := 6) _ (by decide))
    have hT : Po.text (.mk k p f v l) = (if k = 5 then Po.headT p else []) ++ Lib.join (Po.parts l) (Po.sepOf k) := by rw [Po.text, if_neg h1, if_neg h2]
    have hp5 : k = 5 → Pd.right p = true := fun e => by
      rcases hsh with h | h | h | h
      · exact h.2.1
      · omega
      · omega
      · exact h.2.1
    have hk : k = 3 ∨ k = 4 ∨ k = 5 := by omega
    have cp : k = 5 → NCall Tryz.prog 57 [.agg (Pd.cs p pu)] [hpB F] fun r m => r = .str (Pd.text p) ∧ m = [hpB F] := fun e => text26_c F hF _ p pu (Nat.le_refl _) (by omega) (Po.right_fits (hp5 e)) hpu
    have hpt : k = 5 → (Pd.text p).length + 7 ≤ 40 * Pd.size p := fun e => Pd.text_len p (Po.right_fits (hp5 e))
    rw [hT]
    unfold Po.headT
    clear hT htl hp5 hx hpu hf hsh
    generalize Pd.text p = tp at *
    generalize Pd.size p = zp at *
    obtain ⟨pk, pf, pv, pl⟩ := p
    simp only [pd_cs, po_cs, Pd.T.k, Pd.T.f, Pd.T.v, Pd.T.l] at *
    refine ncall_of Tryz.func28 rfl (by decide) ?_
    repeat' first|(refine sxZ ?_;try clear hK K)|refine sxW ?_ ?_<;>intro _|(intro K hK _;(conv=>whnf))
    refine st_auto (α := Value × Nat) (fun (w, i) => i ≤ l.length) (fun (w, i) => [.keep, .keep, .keep, .set (.sl 2 w i), .keep, .drop, .keep, .keep, .keep, .set (.int .i64 i), .drop, .drop, .drop, .drop, .drop, .drop, .drop, .drop, .drop, .keep, .keep, .keep, .keep, .keep, .keep, .keep, .keep, .keep, .keep, .keep, .keep, .keep, .keep, .keep, .keep, .keep, .keep, .keep, .keep, .keep, .keep, .keep, .keep, .keep, .keep, .keep, .keep, .keep, .keep, .keep, .keep, .keep, .keep, .keep, .keep]) (fun (w, i) => [.keep, .keep, .set ⟨addrOf w, strAV (Po.parts (l.take i)), .row w 9 1 i⟩]) (fun (w, i) => l.length - i) (.slice none 0 0, 0) (Nat.zero_le _) ?_ ((MemFits.nilRow _ 9 1).trans (MemFits.congr rfl)) ?_
    · exact fitsGo
    (intro ⟨w, i⟩ hi; intro K hK; (conv=>whnf); refine hK _ _ ?_; clear hK K)
    dsimp only
    have hi : i ≤ l.length := hi
    by_cases hlt : i < l.length
    · have hx : l[i]? = some l[i] := List.getElem?_eq_getElem hlt
      obtain ⟨pA, pcap, A, cap, hA, c0, c1, c2, c3, c4, c5, c6, c7⟩ := hu.get hx
      have c := ci _ (List.mem_of_getElem? hx) _ _ hA
      have hAo := hA.l.ok
      have hAp := hA.p.ok
      have hnx := Po.parts_take hlt
      have hpi := Po.parts_len (l.take i)
      rw [List.length_take, Nat.min_eq_left hi] at hpi
      have hav := strAV_len (Po.parts (l.take i))
      rw [hpi] at hav
      have hav2 : strAV (Po.parts (l.take (i + 1))) = strAV (Po.parts (l.take i)) ++ [.str (Po.innerT l[i].k (Po.text l[i]))] := by rw [hnx]; unfold strAV; rw [List.map_append]; rfl
      clear ci hj3 hj4 hj5 hsum hnx cp
      generalize Po.innerT l[i].k (Po.text l[i]) = y at *
      generalize l[i] = x at *
      generalize strAV (Po.parts (l.take i)) = B at *
      obtain ⟨xk, ⟨xpk, xpf, xpv, xpl⟩, xf, xv, xl⟩ := x
      simp only [Po.cs, Po.T.k, Po.T.p, Po.T.f, Po.T.v, Po.T.l, Pd.T.k, Pd.T.f, Pd.T.v, Pd.T.l] at c c0 c1 c2 c3 c4 c5 c6 c7 hAo hAp
      repeat' first|(intro K hK;(with_reducible refine gC ?_);refine cS [0] c ?_)|(refine sxZ ?_;try clear hK K)|refine sxW ?_ ?_<;>intro _|(intro K hK _;(conv=>whnf))
      all_goals
        rename_i v9
        refine st_round (v9, i + 1) hlt (by show l.length - (i + 1) < l.length - i; omega) ?_ (MemFits.pre 3 ?_)
        · dsimp only
          exact fitsGo
        · simp only [autoM, List.take, hav2]
          rfl
    · have hkl : i = l.length := by omega
      subst hkl
      rw [List.take_length]
      clear ci
      have hjo := fun m sep hm h1 => join_own F w (Po.parts l) sep 9 m hm h1 (by omega) 2
      rw [hpl] at hjo
      rcases hk with rfl | rfl | rfl
      · repeat' first|((try intro K hK);(with_reducible refine NCall.isF 56 ?_);(refine (hjo _ [59, 32] (MemFits.pick (m' := [hpB F, _]) [0, 2] (by decide) rfl) (by omega)).mono ?_; rintro _ _ ⟨rfl, rfl⟩);(conv=>whnf))|(refine sxZ ?_;try clear hK K)|refine sxW ?_ ?_<;>intro _|(intro K hK _;(conv=>whnf))
        all_goals exact ⟨rfl, MemFits.pre 1 rfl⟩
      · repeat' first|((try intro K hK);(with_reducible refine NCall.isF 56 ?_);(refine (hjo _ [32, 124, 32] (MemFits.pick (m' := [hpB F, _]) [0, 2] (by decide) rfl) (by omega)).mono ?_; rintro _ _ ⟨rfl, rfl⟩);(conv=>whnf))|(refine sxZ ?_;try clear hK K)|refine sxW ?_ ?_<;>intro _|(intro K hK _;(conv=>whnf))
        all_goals exact ⟨rfl, MemFits.pre 1 rfl⟩
      · have cp := cp rfl
        have hpt := hpt rfl
        repeat' first|((try intro K hK);(with_reducible refine gC ?_);refine cS [0] cp ?_)|((try intro K hK);(with_reducible refine NCall.isF 56 ?_);(refine (hjo _ [32, 101, 108, 115, 101, 32] (MemFits.pick (m' := [hpB F, _]) [0, 2] (by decide) rfl) (by omega)).mono ?_; rintro _ _ ⟨rfl, rfl⟩);(conv=>whnf))|(refine sxZK [] ?_;try clear hK K)|refine sxW ?_ ?_<;>intro _|refine sxVK ?_ ?_|(intro K hK _;(conv=>whnf))
        all_goals exact ⟨by simp [Po.sepOf], MemFits.pre 1 rfl⟩
end Go.Proofs.YtngodakgbldlpaaGreatDoor


