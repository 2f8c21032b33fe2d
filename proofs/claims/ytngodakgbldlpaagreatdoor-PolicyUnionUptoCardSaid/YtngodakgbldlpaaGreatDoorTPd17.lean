/-
  Conditions: their text, by the program.
-/
import Derived.Test.YtngodakgbldlpaaGreatDoorTJ7
import Derived.Test.YtngodakgbldlpaaGreatDoorTJ3
import Derived.Test.YtngodakgbldlpaaGreatDoorTJ9
namespace Go.Proofs.YtngodakgbldlpaaGreatDoor
open Go.Sx
set_option maxRecDepth 20000
set_option linter.unusedSimpArgs false
set_option linter.unusedVariables false
set_option maxHeartbeats 4000000
set_option linter.unusedVariables false
theorem words26_c : NCall Tryz.prog 85 [] [] fun r _ => r = .agg [.str [115, 114, 99], .str [100, 115, 116], .str [107, 105, 110, 100], .str [116, 97, 103], .str [112, 111, 114, 116], .str [115, 119, 105, 116, 99, 104]] := by
  refine ncall_of Tryz.func85 rfl (by decide) ?_
  repeat' first|(refine sxZ ?_;try clear hK K)|refine sxW ?_ ?_<;>intro _|(intro K hK _;(conv=>whnf))
  all_goals rfl
theorem inner26_of (F : Heap) (k f v : Int) (l : List Pd.T) (u : Value) (s : List UInt8) (hok : SlOk u l.length) (hs : s.length ≤ 4611686018427387904) (h : NCall Tryz.prog 57 [.agg (Pd.cs (.mk k f v l) u)] [hpB F] fun r m => r = .str s ∧ m = [hpB F]) :
    NCall Tryz.prog 86 [.agg [.int .i64 k, .int .i64 f, .int .i64 v, .hs u l.length]] [hpB F] fun r m => r = .str (Pd.innerT k s) ∧ m = [hpB F] := by
  refine NCall.fits (K := fun r m => r = .str (Pd.innerT k s) ∧ MemFits m [hpB F]) ?_ fun r m' h => ⟨r, _, rfl, h.2, h.1, rfl⟩
  rw [pd_cs] at h
  unfold Pd.innerT
  refine ncall_of Tryz.func86 rfl (by decide) ?_
  by_cases hk : k = 5 ∨ k = 6
  · rw [if_pos hk]
    rcases hk with rfl | rfl
    iterate 2
      · repeat' first|(intro K hK;(with_reducible refine gC ?_);refine cS [0] h ?_)|(refine sxZ ?_;try clear hK K)|refine sxW ?_ ?_<;>intro _|(intro K hK _;(conv=>whnf))
        all_goals exact ⟨rfl, MemFits.pre 1 rfl⟩
  · rw [if_neg hk]
    repeat' first|(intro K hK;(with_reducible refine gC ?_);refine cS [0] h ?_)|(refine sxZ ?_;try clear hK K)|refine sxW ?_ ?_<;>intro _|(intro K hK _;(conv=>whnf))
    all_goals first
      | exact ⟨rfl, MemFits.pre 1 rfl⟩
      | (exfalso; omega)
theorem text26_3 (F : Heap) (hF : TabF F) (f v : Int) (u : Value) (hok : SlOk u 0) (hf : 0 ≤ f ∧ f ≤ 5) (hv : 0 ≤ v ∧ v ≤ 255) :
    NCall Tryz.prog 57 [.agg [.int .i64 3, .int .i64 f, .int .i64 v, .hs u 0]] [hpB F] fun r m => r = .str (Pd.word f ++ ([32, 61, 32] ++ Lib.itoa v)) ∧ MemFits m [hpB F] := by
  have ci := itoa_c F hF v (by omega)
  have hln := Lib.itoa_length_le v (by omega) (by omega)
  generalize Lib.itoa v = s at *
  have : f = 0 ∨ f = 1 ∨ f = 2 ∨ f = 3 ∨ f = 4 ∨ f = 5 := by omega
  refine ncall_of Tryz.func57 rfl (by decide) ?_
  rcases this with rfl | rfl | rfl | rfl | rfl | rfl
  all_goals (repeat' first|(intro K hK;(with_reducible refine gC ?_);first|refine cP words26_c ?_|refine cS [0] ci ?_)|(refine sxZK [] ?_;try clear hK K)|refine sxW ?_ ?_<;>intro _|refine sxVK ?_ ?_|(intro K hK _;(conv=>whnf)))
  all_goals exact ⟨by simp [Pd.word], MemFits.pre 1 rfl⟩
theorem text26_c (F : Heap) (hF : TabF F) : ∀ (n : Nat) (p : Pd.T) (u : Value), Pd.size p ≤ n → Pd.size p ≤ 1000000000 → Pd.fits p = true → Pd.Row F u p.l →
    NCall Tryz.prog 57 [.agg (Pd.cs p u)] [hpB F] fun r m => r = .str (Pd.text p) ∧ m = [hpB F]
  | 0, p, u, hn, _, _, _ => absurd (Pd.size_pos p) (by omega)
  | n + 1, ⟨k, f, v, l⟩, u, hn, hs, hf, hu => by
    refine NCall.fits (K := fun r m => r = .str (Pd.text (.mk k f v l)) ∧ MemFits m [hpB F]) ?_ fun r m' h => ⟨r, _, rfl, h.2, h.1, rfl⟩
    have hu : Pd.Row F u l := hu
    have hok := hu.ok
    have htl := Pd.text_len _ hf
    obtain ⟨hsh, hfl⟩ := Pd.fits_mk hf
    have e2 := Pd.size_mk k f v l
    have hll := Pd.length_le l
    have htop := Pd.top_lt f
    rw [pd_cs]
    by_cases h3 : k = 3
    · subst h3
      have hl0 : l = [] := List.length_eq_zero_iff.1 (by omega)
      subst hl0
      have := text26_3 F hF f v u hok (by omega) (by omega)
      rw [Pd.text]
      exact this
    by_cases h1 : k = 1
    · subst h1
      rw [Pd.text]
      refine ncall_of Tryz.func57 rfl (by decide) ?_
      repeat' first|(refine sxZ ?_;try clear hK K)|refine sxW ?_ ?_<;>intro _|(intro K hK _;(conv=>whnf))
      all_goals exact ⟨rfl, MemFits.pre 1 rfl⟩
    by_cases h2 : k = 2
    · subst h2
      rw [Pd.text]
      refine ncall_of Tryz.func57 rfl (by decide) ?_
      repeat' first|(refine sxZ ?_;try clear hK K)|refine sxW ?_ ?_<;>intro _|(intro K hK _;(conv=>whnf))
      all_goals exact ⟨rfl, MemFits.pre 1 rfl⟩
    have hpl := Pd.parts_len l
    have ci : ∀ x ∈ l, ∀ A, Pd.Row F A x.l → NCall Tryz.prog 86 [.agg (Pd.cs x A)] [hpB F] fun r m => r = .str (Pd.innerT x.k (Pd.text x)) ∧ m = [hpB F] := fun x hx A hA => by
      have hlt := Pd.size_lt (k := k) (f := f) (v := v) hx
      have := text26_c F hF n x A (by omega) (by omega) (hfl x hx) hA
      have hxl := Pd.text_len x (hfl x hx)
      obtain ⟨xk, xf, xv, xl⟩ := x
      exact inner26_of F xk xf xv xl A _ hA.ok (by omega) this
    have hsum := Pd.parts_sum l (by rw [Pd.fitsL_iff]; exact hfl)
    have hj0 := Nat.le_trans (Pd.join_le [] (Pd.parts l)) (Pd.sum_le (a := ([] : List UInt8).length) (b := 5) _ (by simp))
    have hj5 := Nat.le_trans (Pd.join_le [32, 97, 110, 100, 32] (Pd.parts l)) (Pd.sum_le (a := ([32, 97, 110, 100, 32] : List UInt8).length) (b := 5) _ (by simp))
    have hj6 := Nat.le_trans (Pd.join_le [32, 111, 114, 32] (Pd.parts l)) (Pd.sum_le (a := ([32, 111, 114, 32] : List UInt8).length) (b := 5) _ (by simp))
    have hT : Pd.text (.mk k f v l) = if k = 4 then [110, 111, 116, 32] ++ Lib.join (Pd.parts l) [] else Lib.join (Pd.parts l) (Pd.sepOf k) := by rw [Pd.text, if_neg h1, if_neg h2, if_neg h3]
    rw [hT]
    refine ncall_of Tryz.func57 rfl (by decide) ?_
    repeat' first|(refine sxZ ?_;try clear hK K)|refine sxW ?_ ?_<;>intro _|(intro K hK _;(conv=>whnf))
    refine st_auto (α := Value × Nat) (fun (w, i) => i ≤ l.length) (fun (w, i) => [.keep, .keep, .keep, .set (.sl 2 w i), .keep, .drop, .keep, .keep, .keep, .keep, .keep, .keep, .keep, .keep, .keep, .keep, .keep, .keep, .keep, .keep, .keep, .keep, .keep, .keep, .keep, .keep, .keep, .keep, .set (.int .i64 i), .drop, .drop, .drop, .drop, .drop, .drop, .drop, .drop, .drop, .keep, .keep, .keep, .keep, .keep, .keep, .keep, .keep, .keep, .keep, .keep, .keep, .keep]) (fun (w, i) => [.keep, .keep, .set ⟨addrOf w, strAV (Pd.parts (l.take i)), .row w 9 1 i⟩]) (fun (w, i) => l.length - i) (.slice none 0 0, 0) (Nat.zero_le _) ?_ ((MemFits.nilRow _ 9 1).trans (MemFits.congr rfl)) ?_
    · exact fitsGo
    (intro ⟨w, i⟩ hi; intro K hK; (conv=>whnf); refine hK _ _ ?_; clear hK K)
    dsimp only
    have hi : i ≤ l.length := hi
    by_cases hlt : i < l.length
    · have hx : l[i]? = some l[i] := List.getElem?_eq_getElem hlt
      obtain ⟨A, cap, hA, c0, c1, c2, c3⟩ := hu.get hx
      have c := ci _ (List.mem_of_getElem? hx) _ hA
      have hnx := Pd.parts_take hlt
      have hpi := Pd.parts_len (l.take i)
      rw [List.length_take, Nat.min_eq_left hi] at hpi
      have hav := strAV_len (Pd.parts (l.take i))
      rw [hpi] at hav
      have hav2 : strAV (Pd.parts (l.take (i + 1))) = strAV (Pd.parts (l.take i)) ++ [.str (Pd.innerT l[i].k (Pd.text l[i]))] := by rw [hnx]; unfold strAV; rw [List.map_append]; rfl
      clear ci hT hj0 hj5 hj6 hsum hnx
      generalize Pd.innerT l[i].k (Pd.text l[i]) = y at *
      generalize l[i] = x at *
      generalize strAV (Pd.parts (l.take i)) = B at *
      obtain ⟨xk, xf, xv, xl⟩ := x
      simp only [Pd.cs, Pd.T.k, Pd.T.f, Pd.T.v, Pd.T.l] at c c0 c1 c2 c3 hA
      repeat' first|(intro K hK;(with_reducible refine gC ?_);refine cS [0] c ?_)|(refine sxZ ?_;try clear hK K)|refine sxW ?_ ?_<;>intro _|(intro K hK _;(conv=>whnf))
      all_goals
        rename_i v9
        refine st_round (v9, i + 1) hlt (by show l.length - (i + 1) < l.length - i; omega) ?_ (MemFits.pre 3 ?_)
        · dsimp only
          exact fitsGo
        · simp only [autoM, List.take, hav2]
          rfl
    · have hkl : i = l.length := by omega
      subst hkl
      rw [List.take_length]
      clear ci
      have hjo := fun m sep hm h1 => join_own F w (Pd.parts l) sep 9 m hm h1 (by omega) 2
      rw [hpl] at hjo
      by_cases h4 : k = 4
      · subst h4
        rw [if_pos rfl]
        repeat' first|((try intro K hK);(with_reducible refine NCall.isF 56 ?_);(refine (hjo _ [] (MemFits.pick (m' := [hpB F, _]) [0, 2] (by decide) rfl) (by omega)).mono ?_; rintro _ _ ⟨rfl, rfl⟩);(conv=>whnf))|(refine sxZ ?_;try clear hK K)|refine sxW ?_ ?_<;>intro _|(intro K hK _;(conv=>whnf))
        all_goals exact ⟨rfl, MemFits.pre 1 rfl⟩
      rw [if_neg h4]
      by_cases h5 : k = 5
      · subst h5
        repeat' first|((try intro K hK);(with_reducible refine NCall.isF 56 ?_);(refine (hjo _ [32, 97, 110, 100, 32] (MemFits.pick (m' := [hpB F, _]) [0, 2] (by decide) rfl) (by omega)).mono ?_; rintro _ _ ⟨rfl, rfl⟩);(conv=>whnf))|(refine sxZ ?_;try clear hK K)|refine sxW ?_ ?_<;>intro _|(intro K hK _;(conv=>whnf))
        all_goals exact ⟨rfl, MemFits.pre 1 rfl⟩
      have h6 : k = 6 := by omega
      subst h6
      repeat' first|((try intro K hK);(with_reducible refine NCall.isF 56 ?_);(refine (hjo _ [32, 111, 114, 32] (MemFits.pick (m' := [hpB F, _]) [0, 2] (by decide) rfl) (by omega)).mono ?_; rintro _ _ ⟨rfl, rfl⟩);(conv=>whnf))|(refine sxZ ?_;try clear hK K)|refine sxW ?_ ?_<;>intro _|(intro K hK _;(conv=>whnf))
      all_goals exact ⟨rfl, MemFits.pre 1 rfl⟩
end Go.Proofs.YtngodakgbldlpaaGreatDoor


