/-
  The words of a text: told again they have the same words; each stands where it says.
-/
import Derived.Test.YtokpkddeijfjjaaDoorLxW4
import Derived.Lib.ItoaLen
import Derived.Lib.Join
namespace Go.Proofs.YtokpkddeijfjjaaDoor
open Go.Sx
set_option linter.unusedVariables false
namespace Lx
def wordB (b : B) : List UInt8 := if b.k = 2 then Lib.itoa b.n else b.s
theorem itoa1 : ∀ i : Nat, i < 10 → Lib.itoa (i : Int) = [(48 + i).toUInt8] := by decide +kernel
theorem itoa2 : ∀ i : Nat, i < 9 → ∀ j : Nat, j < 10 → Lib.itoa ((10 * (i + 1) + j : Nat) : Int) = [(49 + i).toUInt8, (48 + j).toUInt8] := by decide +kernel
theorem itoa3 : ∀ i : Nat, i < 9 → ∀ j : Nat, j < 10 → ∀ k : Nat, k < 10 → Lib.itoa ((10 * (10 * (i + 1) + j) + k : Nat) : Int) = [(49 + i).toUInt8, (48 + j).toUInt8, (48 + k).toUInt8] := by decide +kernel
theorem digit_is {c : UInt8} (h : isD c = true) : ∃ i : Nat, i < 10 ∧ c.toNat - 48 = i ∧ c = (48 + i).toUInt8 := by
  unfold isD at h
  simp only [Bool.and_eq_true, decide_eq_true_eq] at h
  refine ⟨c.toNat - 48, by omega, rfl, ?_⟩
  rw [show 48 + (c.toNat - 48) = c.toNat by omega]
  simp
theorem num_itoa (d : List UInt8) (hd : ∀ c ∈ d, isD c = true) (hne : d ≠ []) (hok : ¬ (3 < d.length ∨ (1 < d.length ∧ d.getD 0 0 = 48))) : Lib.itoa (num d : Nat) = d := by
  match d, hne with
  | [a], _ =>
    obtain ⟨i, hi, e, rfl⟩ := digit_is (hd a (by simp))
    unfold num
    simp only [List.foldl_cons, List.foldl_nil, e]
    simpa using itoa1 i hi
  | [a, b], _ =>
    obtain ⟨i, hi, e, rfl⟩ := digit_is (hd a (by simp))
    obtain ⟨j, hj, e2, rfl⟩ := digit_is (hd b (by simp))
    have h0 : i ≠ 0 := fun h => hok (.inr ⟨by simp, by subst h; rfl⟩)
    obtain ⟨i, rfl⟩ : ∃ k, i = k + 1 := ⟨i - 1, by omega⟩
    unfold num
    simp only [List.foldl_cons, List.foldl_nil, e, e2]
    have := itoa2 i (by omega) j hj
    rw [show 49 + i = 48 + (i + 1) by omega] at this
    simpa using this
  | [a, b, c], _ =>
    obtain ⟨i, hi, e, rfl⟩ := digit_is (hd a (by simp))
    obtain ⟨j, hj, e2, rfl⟩ := digit_is (hd b (by simp))
    obtain ⟨k, hk, e3, rfl⟩ := digit_is (hd c (by simp))
    have h0 : i ≠ 0 := fun h => hok (.inr ⟨by simp, by subst h; rfl⟩)
    obtain ⟨i, rfl⟩ : ∃ k, i = k + 1 := ⟨i - 1, by omega⟩
    unfold num
    simp only [List.foldl_cons, List.foldl_nil, e, e2, e3]
    have := itoa3 i (by omega) j hj k hk
    rw [show 49 + i = 48 + (i + 1) by omega] at this
    simpa using this
  | _ :: _ :: _ :: _ :: _, _ => exact (hok (.inl (by simp))).elim
theorem nextB_word {t : List UInt8} {b : B} {n : Nat} (h : nextB t = some (b, n)) : t.take n = wordB b ∧ (wordB b).length = n ∧ 1 ≤ n ∧ (b.k = 1 ∨ b.k = 2 ∨ b.k = 3) := by
  have hp := nextB_pos h
  have key : t.take n = wordB b ∧ (b.k = 1 ∨ b.k = 2 ∨ b.k = 3) := by
    cases t with
    | nil => cases h
    | cons c r =>
      rw [nextB_eq] at h
      split at h
      · injection h with h; injection h with h1 h2
        subst h1 h2
        exact ⟨(tw_take isL (c :: r)).1, .inl rfl⟩
      split at h
      · split at h
        · cases h
        · rename_i hd hk
          injection h with h; injection h with h1 h2
          subst h1 h2
          refine ⟨?_, .inr (.inl rfl)⟩
          rw [(tw_take isD (c :: r)).1]
          have h0 : ((c :: r).takeWhile isD).getD 0 0 = c := by rw [List.takeWhile_cons_of_pos hd]; rfl
          exact (num_itoa _ (fun x hx => tw_all hx) (by rw [List.takeWhile_cons_of_pos hd]; simp) (by rw [h0]; exact hk)).symm
      split at h
      · rename_i hc
        injection h with h; injection h with h1 h2
        subst h1 h2
        refine ⟨?_, .inr (.inr rfl)⟩
        cases r with
        | nil => simp at hc
        | cons d r =>
          have hd : d = 61 := by simpa using hc.2
          rw [hd, hc.1]; rfl
      split at h
      · injection h with h; injection h with h1 h2
        subst h1 h2
        exact ⟨rfl, .inr (.inr rfl)⟩
      · cases h
  refine ⟨key.1, ?_, hp.1, key.2⟩
  rw [← key.1, List.length_take]; omega
def joinW (l : List B) : List UInt8 := Lib.join (l.map wordB) [32]
theorem join2 (x y : List UInt8) (l : List (List UInt8)) : Lib.join (x :: y :: l) [32] = x ++ (32 :: Lib.join (y :: l) [32]) := by
  simp [Lib.join, List.intercalate, List.intersperse]
theorem skip_sp (u : List UInt8) : skip (32 :: u) = skip u := by
  have e : (32 :: u).dropWhile isSp = u.dropWhile isSp := List.dropWhile_cons_of_pos (by decide)
  cases hu : u.dropWhile isSp with
  | nil => rw [skip_nil (e.trans hu), skip_nil hu]
  | cons c r => rw [skip_cons (e.trans hu), skip_cons hu]
/-- Where words stand. -/
def Pl : List UInt8 → List (B × List UInt8) → Prop
  | _, [] => True
  | t, (b, u) :: L => (∃ p, t = p ++ u) ∧ (b.k = 1 ∨ b.k = 2 ∨ b.k = 3) ∧ 1 ≤ (wordB b).length ∧ ∃ q, u = wordB b ++ q ∧ Pl q L
theorem again : ∀ (n : Nat) (t : List UInt8), t.length ≤ n → ∀ (L : List (B × List UInt8)), toks t = some L →
    Pl t L ∧ ∃ L', toks (joinW (L.map (·.1))) = some L' ∧ L'.map (·.1) = L.map (·.1)
  | 0, t, h, L, hL => by
    have : t = [] := List.eq_nil_of_length_eq_zero (by omega)
    subst this
    rw [toks_nil (skip_nil rfl)] at hL
    injection hL with hL
    subst hL
    exact ⟨trivial, [], toks_nil (skip_nil rfl), rfl⟩
  | n + 1, t, h, L, hL => by
    by_cases hs : skip t = []
    · rw [toks_nil hs] at hL
      injection hL with hL
      subst hL
      exact ⟨trivial, [], toks_nil (skip_nil rfl), rfl⟩
    cases h2 : nextB (skip t) with
    | none => rw [toks_none hs h2] at hL; cases hL
    | some q =>
      obtain ⟨b, m⟩ := q
      rw [toks_cons hs h2] at hL
      obtain ⟨L2, hL2, rfl⟩ := Option.map_eq_some_iff.1 hL
      obtain ⟨bl, hb, _⟩ := skip_split t.length t (Nat.le_refl _) hs
      have hlen := skip_len t.length t (Nat.le_refl _)
      obtain ⟨hw, hwl, hm1, hk⟩ := nextB_word h2
      have hpos := nextB_pos h2
      obtain ⟨hpl, L3, hL3, hmap⟩ := again n ((skip t).drop m) (by rw [List.length_drop]; omega) L2 hL2
      have htd : skip t = wordB b ++ (skip t).drop m := by rw [← hw]; exact (List.take_append_drop m (skip t)).symm
      refine ⟨⟨⟨bl, hb⟩, hk, by omega, _, htd, hpl⟩, ?_⟩
      obtain ⟨c, r, hcr⟩ : ∃ c r, skip t = c :: r := by
        cases he : skip t with
        | nil => exact (hs he).elim
        | cons c r => exact ⟨c, r, rfl⟩
      have hhd := skip_head t.length t (Nat.le_refl _) hcr
      obtain ⟨m', rfl⟩ : ∃ m', m = m' + 1 := ⟨m - 1, by omega⟩
      have hwc : wordB b = c :: r.take m' := by rw [← hw, hcr, List.take_succ_cons]
      have hsk : ∀ y, skip (wordB b ++ y) = wordB b ++ y := fun y => by rw [hwc, List.cons_append]; exact skip_id hhd.1 hhd.2
      have hnx : ∀ y, (∀ d q, y = d :: q → isL d = false ∧ isD d = false) → nextB (wordB b ++ y) = some (b, m' + 1) := fun y hy => by
        rw [← hw]; exact nextB_ext h2 fun d q e => .inl (hy d q e)
      have hne : ∀ y, wordB b ++ y ≠ [] := fun y => by rw [hwc]; simp
      have hdr : ∀ y, (wordB b ++ y).drop (m' + 1) = y := fun y => by rw [← hwl]; exact List.drop_left
      have go : ∀ y, (∀ d q, y = d :: q → isL d = false ∧ isD d = false) → toks (wordB b ++ y) = (toks y).map ((b, wordB b ++ y) :: ·) := fun y hy => by
        rw [toks_cons (by rw [hsk]; exact hne y) (by rw [hsk]; exact hnx y hy), hsk, hdr]
      cases L2 with
      | nil =>
        refine ⟨[(b, wordB b ++ [])], ?_, rfl⟩
        have e : joinW ([(b, skip t)].map (·.1)) = wordB b ++ [] := by
          unfold joinW
          simp [Lib.join_one]
        rw [e, go [] (fun d q e => by cases e), toks_nil (skip_nil rfl)]
        rfl
      | cons x xs =>
        have e : joinW (((b, skip t) :: x :: xs).map (·.1)) = wordB b ++ (32 :: joinW ((x :: xs).map (·.1))) := by
          unfold joinW
          simp only [List.map_cons]
          rw [join2]
        refine ⟨(b, wordB b ++ (32 :: joinW ((x :: xs).map (·.1)))) :: L3, ?_, by simp only [List.map_cons, ← hmap]⟩
        rw [e, go _ (fun d q e => by injection e with e _; rw [← e]; exact ⟨by decide, by decide⟩), toks_skip (skip_sp _), hL3]
        rfl
theorem joinW_len : ∀ (L : List (B × List UInt8)) (t : List UInt8), Pl t L → (joinW (L.map (·.1))).length ≤ 2 * t.length
  | [], t, _ => by simp [joinW, Lib.join_nil]
  | [(b, u)], t, h => by
    obtain ⟨⟨p, rfl⟩, _, _, q, rfl, _⟩ := h
    unfold joinW
    simp only [List.map_cons, List.map_nil, Lib.join_one, List.length_append]
    omega
  | (b, u) :: (b2, u2) :: L, t, h => by
    obtain ⟨⟨p, rfl⟩, _, h1, q, rfl, hq⟩ := h
    have ih := joinW_len ((b2, u2) :: L) q hq
    unfold joinW at *
    simp only [List.map_cons] at *
    rw [join2]
    simp only [List.length_append, List.length_cons] at *
    omega
theorem Pl.drop : ∀ (L : List (B × List UInt8)) (t : List UInt8) (i : Nat) (b : B) (u : List UInt8), Pl t L → L[i]? = some (b, u) → ∃ p, t = p ++ u
  | (b', u') :: L, t, 0, b, u, h, e => by
    simp at e
    obtain ⟨rfl, rfl⟩ := e
    exact h.1
  | (b', u') :: L, t, i + 1, b, u, h, e => by
    obtain ⟨⟨p, rfl⟩, _, _, q, rfl, hq⟩ := h
    obtain ⟨p2, hp2⟩ := Pl.drop L q i b u hq (by simpa using e)
    exact ⟨p ++ (wordB b' ++ p2), by rw [hp2]; simp⟩
/-- What a token says, as text. -/
def parts (l : List T) : List (List UInt8) := l.flatMap fun x => if x.k = 2 then [Lib.itoa x.n] else if x.k = 1 ∨ x.k = 3 then [x.s] else []
theorem parts_res (tx : List UInt8) (L : List (B × List UInt8)) (h : ∀ x ∈ L, x.1.k = 1 ∨ x.1.k = 2 ∨ x.1.k = 3) : parts (res tx L) = (L.map (·.1)).map wordB := by
  unfold parts res
  rw [List.flatMap_append]
  have e : ([⟨4, 0, [], (tx.length : Int)⟩] : List T).flatMap (fun x => if x.k = 2 then [Lib.itoa x.n] else if x.k = 1 ∨ x.k = 3 then [x.s] else []) = [] := by simp
  rw [e, List.append_nil]
  clear e
  induction L with
  | nil => rfl
  | cons x L ih =>
    rw [List.map_cons, List.flatMap_cons, ih (fun y hy => h y (by simp [hy]))]
    have := h x (by simp)
    rcases this with h1 | h1 | h1 <;> simp [tokAt, wordB, h1]
theorem Pl.kinds : ∀ (L : List (B × List UInt8)) (t : List UInt8), Pl t L → ∀ x ∈ L, x.1.k = 1 ∨ x.1.k = 2 ∨ x.1.k = 3
  | (b, u) :: L, t, h, x, hx => by
    obtain ⟨_, hk, _, q, _, hq⟩ := h
    rcases List.mem_cons.1 hx with rfl | hx
    · exact hk
    · exact Pl.kinds L q hq x hx
end Lx
end Go.Proofs.YtokpkddeijfjjaaDoor
