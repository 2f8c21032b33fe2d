/-
  Messages: what was told is read as it was; cut, or with more behind, it is not. Plain laws.
-/
import Derived.Test.YtlcleiekeapkdaaPr10
import Derived.Test.YtlcleiekeapkdaaPr10p
import Derived.Test.YtlcleiekeapkdaaRu6p
import Derived.Test.YtlcleiekeapkdaaOct5
namespace Go.Proofs.Ytlcleiekeapkdaa
open Go.Sx
set_option maxRecDepth 20000
set_option maxHeartbeats 2000000
set_option linter.unusedVariables false
namespace Pr
open Oct (R)
theorem pre_8 (x : Ms) : pre x 8 = pre8 x := rfl
theorem num1_be {n : Int} (h : 0 ≤ n ∧ n < 256) : Oct.num n 1 = Oct.be n.toNat 1 := by
  unfold Oct.num
  rw [if_neg (by simp; omega)]; rfl
theorem num2_be {n : Int} (h : 0 ≤ n ∧ n < 65536) : Oct.num n 2 = Oct.be n.toNat 2 := by
  unfold Oct.num
  rw [if_neg (by simp; omega)]; rfl
theorem num1At {n : Int} (h : 0 ≤ n ∧ n < 256) (p c s : List UInt8) (e : s = p ++ Oct.num n 1 ++ c) (i : Nat) (hi : i = p.length) :
    R.num ⟨s, i, 0⟩ 1 = (n.toNat, ⟨s, i + 1, 0⟩) ∧ (Oct.num n 1).length = 1 := by
  rw [num1_be h] at e ⊢
  exact ⟨Oct.num_at p c s n.toNat 1 e i hi (by decide) (by decide) (by omega), Oct.be_len _ _⟩
theorem num2At {n : Int} (h : 0 ≤ n ∧ n < 65536) (p c s : List UInt8) (e : s = p ++ Oct.num n 2 ++ c) (i : Nat) (hi : i = p.length) :
    R.num ⟨s, i, 0⟩ 2 = (n.toNat, ⟨s, i + 2, 0⟩) ∧ (Oct.num n 2).length = 2 := by
  rw [num2_be h] at e ⊢
  exact ⟨Oct.num_at p c s n.toNat 2 e i hi (by decide) (by decide) (by omega), Oct.be_len _ _⟩
theorem ru_back (p c s : List UInt8) (x : Ru.R) (a : Mt.N) (ha : x.m = a.toM) (hao : a.ok) (hok : Ru.ok 8 x) (hs : s = p ++ Ru.code x a ++ c) (i : Nat) (hi : i = p.length) :
    Ru.rdX 8 ⟨s, i, 0⟩ = x ∧ Ru.rdE 8 ⟨s, i, 0⟩ = ⟨s, i + (Ru.code x a).length, 0⟩ := by
  have hc : Ru.code x a = Oct.num x.prio 2 ++ Mt.codeTo a 4 ++ Ac.code x.acts := rfl
  obtain ⟨q1, q2⟩ := num2At (n := x.prio) ⟨hok.1, hok.2.1⟩ p (Mt.codeTo a 4 ++ Ac.code x.acts ++ c) s (by rw [hs, hc]; simp) i hi
  obtain ⟨m1, m2, m3⟩ := Mt.back_at (p ++ Oct.num x.prio 2) (Ac.code x.acts ++ c) s a hao (by rw [hs, hc]; simp)
  have hl2 : (p ++ Oct.num x.prio 2).length = i + 2 := by rw [List.length_append, q2, hi]
  rw [hl2] at m1 m2
  obtain ⟨b1, b2⟩ := Ac.back_at (p ++ Oct.num x.prio 2 ++ Mt.codeTo a 4) c s 8 (by decide) x.acts hok.2.2.2 (by rw [hs, hc]; simp)
  have hl3 : (p ++ Oct.num x.prio 2 ++ Mt.codeTo a 4).length = i + 2 + 9 := by rw [List.length_append, hl2, m3]
  rw [hl3] at b1 b2
  have hcl : (Ru.code x a).length = 2 + 9 + (Ac.code x.acts).length := by rw [hc, List.length_append, List.length_append, q2, m3]
  have hE : Ru.rdE 8 ⟨s, i, 0⟩ = ⟨s, i + (Ru.code x a).length, 0⟩ := by
    unfold Ru.rdE
    rw [show R.num ⟨s, i, 0⟩ 2 = _ from q1]
    dsimp only
    rw [m2, b2, hcl]
    congr 1
    omega
  refine ⟨?_, hE⟩
  unfold Ru.rdX
  rw [hE, if_pos rfl, show R.num ⟨s, i, 0⟩ 2 = _ from q1]
  dsimp only
  rw [m1, m2, b1]
  obtain ⟨xp, xm, xa⟩ := x
  dsimp only at *
  rw [Int.toNat_of_nonneg hok.1, ha]
theorem mdAt (p c s : List UInt8) (x : Md) (hx : okMd x) (hs : s = p ++ mdCode x ++ c) (i : Nat) (hi : i = p.length) : mdX ⟨s, i, 0⟩ = x ∧ mdE ⟨s, i, 0⟩ = ⟨s, i + (mdCode x).length, 0⟩ := by
  obtain ⟨ha, hao⟩ := ofM_is hx.2.2.2.1
  have hc : mdCode x = Oct.num x.k 1 ++ (Oct.fl x.chk ++ Ru.code x.r (ofM x.r.m)) := rfl
  have hk := hx.1
  obtain ⟨q1, q2⟩ := num1At (n := x.k) ⟨by omega, by omega⟩ p (Oct.fl x.chk ++ Ru.code x.r (ofM x.r.m) ++ c) s (by rw [hs, hc]; simp) i hi
  have hl1 : (p ++ Oct.num x.k 1).length = i + 1 := by rw [List.length_append, q2, hi]
  have f1 := Oct.flag_at (p ++ Oct.num x.k 1) (Ru.code x.r (ofM x.r.m) ++ c) s x.chk (by rw [hs, hc]; simp) (i + 1) hl1.symm
  have hfl : (Oct.fl x.chk).length = 1 := by cases x.chk <;> rfl
  have hl2 : (p ++ Oct.num x.k 1 ++ Oct.fl x.chk).length = i + 1 + 1 := by rw [List.length_append, hl1, hfl]
  obtain ⟨r1, r2⟩ := ru_back (p ++ Oct.num x.k 1 ++ Oct.fl x.chk) c s x.r _ ha hao hx.2 (by rw [hs, hc]; simp) (i + 1 + 1) hl2.symm
  have hcl : (mdCode x).length = 1 + 1 + (Ru.code x.r (ofM x.r.m)).length := by rw [hc, List.length_append, List.length_append, q2, hfl]; omega
  have q1 : R.num ⟨s, i, 0⟩ 1 = (x.k.toNat, ⟨s, i + 1, 0⟩) := q1
  constructor
  · unfold mdX
    rw [q1]
    dsimp only
    rw [f1]
    dsimp only
    rw [r1, Int.toNat_of_nonneg (by omega)]
  · unfold mdE
    rw [q1]
    dsimp only
    rw [f1]
    dsimp only
    rw [r2, hcl]
    congr 1
    omega
theorem body_split {l : List Md} {k : Nat} (h : k < l.length) : ∃ rest, bodyTo l l.length = bodyTo l k ++ mdCode l[k] ++ rest := by
  refine ⟨(l.drop (k + 1)).flatMap mdCode, ?_⟩
  rw [← bodyTo_next h]
  unfold bodyTo
  rw [List.take_length, ← List.flatMap_append, List.take_append_drop]
theorem mdsAt (p c s : List UInt8) (l : List Md) (hl : ∀ y ∈ l, okMd y) (hs : s = p ++ bodyTo l l.length ++ c) (i : Nat) (hi : i = p.length) : ∀ k, k ≤ l.length → mdsL ⟨s, i, 0⟩ k = l.take k ∧ mdsE ⟨s, i, 0⟩ k = ⟨s, i + (bodyTo l k).length, 0⟩
  | 0, _ => ⟨by simp [mdsL], by simp [mdsE, bodyTo]⟩
  | k + 1, hk => by
    obtain ⟨h1, h2⟩ := mdsAt p c s l hl hs i hi k (by omega)
    obtain ⟨rest, hr⟩ := body_split (l := l) (k := k) hk
    obtain ⟨m1, m2⟩ := mdAt (p ++ bodyTo l k) (rest ++ c) s l[k] (hl _ (List.getElem_mem hk)) (by rw [hs, hr]; simp) (i + (bodyTo l k).length) (by rw [List.length_append, hi])
    constructor
    · unfold mdsL
      rw [h1, h2, m1, List.take_add_one, List.getElem?_eq_getElem hk]
      rfl
    · unfold mdsE
      rw [h2, m2, bodyTo_next hk, List.length_append]
      congr 1
      omega
/-- Of a message that may be: what is read of its bytes, whatever follows. -/
theorem back (x : Ms) (hx : x.in64) (ho : ok x) (s c : List UInt8) (hs : s = code x ++ c) : msV x.k x.sw ⟨s, 2, 0⟩ = x ∧ e8 x.k ⟨s, 2, 0⟩ = ⟨s, (code x).length, 0⟩ ∧ pk s = x.k.toNat ∧ psw s = x.sw.toNat ∧ pr2 s = ⟨s, 2, 0⟩ := by
  have hrd8 := rd8 ho
  obtain ⟨⟨hk, hsw⟩, hsame, hno, hml, hmo⟩ := ho
  have hn : nOk x.k x.u x.rd x.t1 x.t2 x.life x.of_ x.code ↔ (0 ≤ x.t1 ∧ x.t1 ≤ 1125899906842624) ∧ (-1125899906842624 ≤ x.t2 ∧ x.t2 ≤ 1125899906842624) ∧ (0 ≤ x.life ∧ x.life ≤ 65535) ∧ (0 ≤ x.code ∧ x.code ≤ 255) ∧
    (x.k ≤ 2 ∨ (1 ≤ x.u ∧ x.u ≤ 65535) ∧ x.rd ≤ 7) ∧ (0 ≤ x.rd ∨ x.rd = -1 ∧ 5 ≤ x.k ∧ x.k ≠ 6) ∧ (x.k < 7 ∨ 3 ≤ x.of_ ∧ x.of_ ≤ 6) := Iff.rfl
  rw [hn] at hno
  have t1r : -9223372036854775808 ≤ x.t1 ∧ x.t1 ≤ 9223372036854775807 := ⟨by omega, by omega⟩
  have t2r : -9223372036854775808 ≤ x.t2 ∧ x.t2 ≤ 9223372036854775807 := ⟨by omega, by omega⟩
  have lir : 0 ≤ x.life ∧ x.life < 65536 := ⟨by omega, by omega⟩
  have cor : 0 ≤ x.code ∧ x.code < 256 := ⟨by omega, by omega⟩
  have ur : 3 ≤ x.k ∧ x.k ≤ 8 → 0 ≤ x.u ∧ x.u < 65536 := fun _ => ⟨by omega, by omega⟩
  have rdr : (3 ≤ x.k ∧ x.k ≤ 8) ∧ x.k ≠ 6 → 0 ≤ x.rd + 1 ∧ x.rd + 1 < 256 := fun _ => ⟨by omega, by omega⟩
  have ofr : x.k = 7 ∨ x.k = 8 → 0 ≤ x.of_ ∧ x.of_ < 256 := fun _ => ⟨by omega, by omega⟩
  have kr : 0 ≤ x.k ∧ x.k < 256 := ⟨by omega, by omega⟩
  have swr : 0 ≤ x.sw ∧ x.sw < 256 := ⟨by omega, by omega⟩
  have mlr : 0 ≤ (x.mods.length : Int) ∧ (x.mods.length : Int) < 256 := ⟨by omega, by omega⟩
  clear hno hn hrd8
  have f := (same_eq _ _).1 hsame
  have f1 : x.t1 = if x.k = 1 ∨ x.k = 2 then x.t1 else 0 := congrArg Ms.t1 f
  have f2 : x.t2 = if x.k = 2 ∨ x.k = 4 then x.t2 else 0 := congrArg Ms.t2 f
  have f3 : x.life = if x.k = 2 ∨ x.k = 7 ∨ x.k = 8 then x.life else 0 := congrArg Ms.life f
  have f4 : x.u = if 3 ≤ x.k ∧ x.k ≤ 8 then x.u else 0 := congrArg Ms.u f
  have f5 : x.rd = if (3 ≤ x.k ∧ x.k ≤ 8) ∧ x.k ≠ 6 then x.rd else 0 := congrArg Ms.rd f
  have f6 : x.of_ = if x.k = 7 ∨ x.k = 8 then x.of_ else 0 := congrArg Ms.of_ f
  have f7 : x.code = if x.k = 6 ∨ x.k = 8 then x.code else 0 := congrArg Ms.code f
  have f8 : x.mods = if x.k = 3 then x.mods else [] := congrArg Ms.mods f
  have h8 : ∃ c, s = pre8 x ++ c := by
    unfold code at hs
    simp only [pre_8] at hs
    split at hs
    · exact ⟨_, by rw [hs, List.append_assoc]⟩
    · exact ⟨_, hs⟩
  have h7 : ∃ c, s = pre7 x ++ c := by
    obtain ⟨c, hc⟩ := h8
    unfold pre8 at hc
    split at hc
    · exact ⟨_, by rw [hc, List.append_assoc]⟩
    · exact ⟨_, hc⟩
  have h6 : ∃ c, s = pre6 x ++ c := by
    obtain ⟨c, hc⟩ := h7
    unfold pre7 at hc
    split at hc
    · exact ⟨_, by rw [hc, List.append_assoc]⟩
    · exact ⟨_, hc⟩
  have h5 : ∃ c, s = pre5 x ++ c := by
    obtain ⟨c, hc⟩ := h6
    unfold pre6 at hc
    split at hc
    · exact ⟨_, by rw [hc, List.append_assoc]⟩
    · exact ⟨_, hc⟩
  have h4 : ∃ c, s = pre4 x ++ c := by
    obtain ⟨c, hc⟩ := h5
    unfold pre5 at hc
    split at hc
    · exact ⟨_, by rw [hc, List.append_assoc]⟩
    · exact ⟨_, hc⟩
  have h3 : ∃ c, s = pre3 x ++ c := by
    obtain ⟨c, hc⟩ := h4
    unfold pre4 at hc
    split at hc
    · exact ⟨_, by rw [hc, List.append_assoc]⟩
    · exact ⟨_, hc⟩
  have h2 : ∃ c, s = pre2 x ++ c := by
    obtain ⟨c, hc⟩ := h3
    unfold pre3 at hc
    split at hc
    · exact ⟨_, by rw [hc, List.append_assoc]⟩
    · exact ⟨_, hc⟩
  have h1 : ∃ c, s = pre1 x ++ c := by
    obtain ⟨c, hc⟩ := h2
    unfold pre2 at hc
    split at hc
    · exact ⟨_, by rw [hc, List.append_assoc]⟩
    · exact ⟨_, hc⟩
  have h0 : ∃ c, s = pre0 x ++ c := by
    obtain ⟨c, hc⟩ := h1
    unfold pre1 at hc
    split at hc
    · exact ⟨_, by rw [hc, List.append_assoc]⟩
    · exact ⟨_, hc⟩
  have hp0 : pre0 x = Oct.num x.k 1 ++ Oct.num x.sw 1 := rfl
  obtain ⟨c0, hc0⟩ := h0
  obtain ⟨k1, k2⟩ := num1At (n := x.k) kr [] (Oct.num x.sw 1 ++ c0) s (by rw [hc0, hp0]; simp) 0 rfl
  obtain ⟨s1, s2⟩ := num1At (n := x.sw) swr (Oct.num x.k 1) c0 s (by rw [hc0, hp0]) 1 k2.symm
  have k1 : R.num ⟨s, 0, 0⟩ 1 = (x.k.toNat, ⟨s, 1, 0⟩) := k1
  have s1 : R.num ⟨s, 1, 0⟩ 1 = (x.sw.toNat, ⟨s, 2, 0⟩) := s1
  have hl0 : (pre0 x).length = 2 := by rw [hp0, List.length_append, k2, s2]
  have E0 : (⟨s, 2, 0⟩ : R) = ⟨s, (pre0 x).length, 0⟩ := by rw [hl0]
  have V1 : x.k = 1 ∨ x.k = 2 → (⟨s, 2, 0⟩ : R).int.1 = x.t1 := fun hq => by
    obtain ⟨c, hc⟩ := h1
    unfold pre1 at hc
    rw [if_pos hq] at hc
    rw [E0, Oct.int_at (pre0 x) c s x.t1 t1r (by rw [hc]; rfl) (pre0 x).length rfl]
  have E1 : e1 x.k ⟨s, 2, 0⟩ = ⟨s, (pre1 x).length, 0⟩ := by
    unfold e1
    by_cases hq : x.k = 1 ∨ x.k = 2
    · obtain ⟨c, hc⟩ := h1
      unfold pre1 at hc ⊢
      rw [if_pos hq] at hc ⊢
      rw [if_pos hq, E0, Oct.int_at (pre0 x) c s x.t1 t1r (by rw [hc]; rfl) (pre0 x).length rfl, List.length_append, i8_len]
    · unfold pre1
      rw [if_neg hq, if_neg hq, E0]
  have V2 : x.k = 2 ∨ x.k = 4 → (e1 x.k ⟨s, 2, 0⟩).int.1 = x.t2 := fun hq => by
    obtain ⟨c, hc⟩ := h2
    unfold pre2 at hc
    rw [if_pos hq] at hc
    rw [E1, Oct.int_at (pre1 x) c s x.t2 t2r (by rw [hc]; rfl) (pre1 x).length rfl]
  have E2 : e2 x.k ⟨s, 2, 0⟩ = ⟨s, (pre2 x).length, 0⟩ := by
    unfold e2
    by_cases hq : x.k = 2 ∨ x.k = 4
    · obtain ⟨c, hc⟩ := h2
      unfold pre2 at hc ⊢
      rw [if_pos hq] at hc ⊢
      rw [if_pos hq, E1, Oct.int_at (pre1 x) c s x.t2 t2r (by rw [hc]; rfl) (pre1 x).length rfl, List.length_append, i8_len]
    · unfold pre2
      rw [if_neg hq, if_neg hq, E1]
  have V3 : x.k = 2 ∨ x.k = 7 ∨ x.k = 8 → ((e2 x.k ⟨s, 2, 0⟩).num 2).1 = (x.life).toNat := fun hq => by
    obtain ⟨c, hc⟩ := h3
    unfold pre3 at hc
    rw [if_pos hq] at hc
    obtain ⟨q1, q2⟩ := num2At (n := x.life) lir (pre2 x) c s hc (pre2 x).length rfl
    have q1 : R.num ⟨s, (pre2 x).length, 0⟩ 2 = _ := q1
    rw [E2, q1]
  have E3 : e3 x.k ⟨s, 2, 0⟩ = ⟨s, (pre3 x).length, 0⟩ := by
    unfold e3
    by_cases hq : x.k = 2 ∨ x.k = 7 ∨ x.k = 8
    · obtain ⟨c, hc⟩ := h3
      unfold pre3 at hc ⊢
      rw [if_pos hq] at hc ⊢
      obtain ⟨q1, q2⟩ := num2At (n := x.life) lir (pre2 x) c s hc (pre2 x).length rfl
      have q1 : R.num ⟨s, (pre2 x).length, 0⟩ 2 = _ := q1
      rw [if_pos hq, E2, q1, List.length_append, q2]
    · unfold pre3
      rw [if_neg hq, if_neg hq, E2]
  have V4 : 3 ≤ x.k ∧ x.k ≤ 8 → ((e3 x.k ⟨s, 2, 0⟩).num 2).1 = (x.u).toNat := fun hq => by
    obtain ⟨c, hc⟩ := h4
    unfold pre4 at hc
    rw [if_pos hq] at hc
    obtain ⟨q1, q2⟩ := num2At (n := x.u) (ur hq) (pre3 x) c s hc (pre3 x).length rfl
    have q1 : R.num ⟨s, (pre3 x).length, 0⟩ 2 = _ := q1
    rw [E3, q1]
  have E4 : e4 x.k ⟨s, 2, 0⟩ = ⟨s, (pre4 x).length, 0⟩ := by
    unfold e4
    by_cases hq : 3 ≤ x.k ∧ x.k ≤ 8
    · obtain ⟨c, hc⟩ := h4
      unfold pre4 at hc ⊢
      rw [if_pos hq] at hc ⊢
      obtain ⟨q1, q2⟩ := num2At (n := x.u) (ur hq) (pre3 x) c s hc (pre3 x).length rfl
      have q1 : R.num ⟨s, (pre3 x).length, 0⟩ 2 = _ := q1
      rw [if_pos hq, E3, q1, List.length_append, q2]
    · unfold pre4
      rw [if_neg hq, if_neg hq, E3]
  have V5 : (3 ≤ x.k ∧ x.k ≤ 8) ∧ x.k ≠ 6 → ((e4 x.k ⟨s, 2, 0⟩).num 1).1 = (x.rd + 1).toNat := fun hq => by
    obtain ⟨c, hc⟩ := h5
    unfold pre5 at hc
    rw [if_pos hq] at hc
    obtain ⟨q1, q2⟩ := num1At (n := x.rd + 1) (rdr hq) (pre4 x) c s hc (pre4 x).length rfl
    have q1 : R.num ⟨s, (pre4 x).length, 0⟩ 1 = _ := q1
    rw [E4, q1]
  have E5 : e5 x.k ⟨s, 2, 0⟩ = ⟨s, (pre5 x).length, 0⟩ := by
    unfold e5
    by_cases hq : (3 ≤ x.k ∧ x.k ≤ 8) ∧ x.k ≠ 6
    · obtain ⟨c, hc⟩ := h5
      unfold pre5 at hc ⊢
      rw [if_pos hq] at hc ⊢
      obtain ⟨q1, q2⟩ := num1At (n := x.rd + 1) (rdr hq) (pre4 x) c s hc (pre4 x).length rfl
      have q1 : R.num ⟨s, (pre4 x).length, 0⟩ 1 = _ := q1
      rw [if_pos hq, E4, q1, List.length_append, q2]
    · unfold pre5
      rw [if_neg hq, if_neg hq, E4]
  have V6 : x.k = 7 ∨ x.k = 8 → ((e5 x.k ⟨s, 2, 0⟩).num 1).1 = (x.of_).toNat := fun hq => by
    obtain ⟨c, hc⟩ := h6
    unfold pre6 at hc
    rw [if_pos hq] at hc
    obtain ⟨q1, q2⟩ := num1At (n := x.of_) (ofr hq) (pre5 x) c s hc (pre5 x).length rfl
    have q1 : R.num ⟨s, (pre5 x).length, 0⟩ 1 = _ := q1
    rw [E5, q1]
  have E6 : e6 x.k ⟨s, 2, 0⟩ = ⟨s, (pre6 x).length, 0⟩ := by
    unfold e6
    by_cases hq : x.k = 7 ∨ x.k = 8
    · obtain ⟨c, hc⟩ := h6
      unfold pre6 at hc ⊢
      rw [if_pos hq] at hc ⊢
      obtain ⟨q1, q2⟩ := num1At (n := x.of_) (ofr hq) (pre5 x) c s hc (pre5 x).length rfl
      have q1 : R.num ⟨s, (pre5 x).length, 0⟩ 1 = _ := q1
      rw [if_pos hq, E5, q1, List.length_append, q2]
    · unfold pre6
      rw [if_neg hq, if_neg hq, E5]
  have V7 : x.k = 6 ∨ x.k = 8 → ((e6 x.k ⟨s, 2, 0⟩).num 1).1 = (x.code).toNat := fun hq => by
    obtain ⟨c, hc⟩ := h7
    unfold pre7 at hc
    rw [if_pos hq] at hc
    obtain ⟨q1, q2⟩ := num1At (n := x.code) cor (pre6 x) c s hc (pre6 x).length rfl
    have q1 : R.num ⟨s, (pre6 x).length, 0⟩ 1 = _ := q1
    rw [E6, q1]
  have E7 : e7 x.k ⟨s, 2, 0⟩ = ⟨s, (pre7 x).length, 0⟩ := by
    unfold e7
    by_cases hq : x.k = 6 ∨ x.k = 8
    · obtain ⟨c, hc⟩ := h7
      unfold pre7 at hc ⊢
      rw [if_pos hq] at hc ⊢
      obtain ⟨q1, q2⟩ := num1At (n := x.code) cor (pre6 x) c s hc (pre6 x).length rfl
      have q1 : R.num ⟨s, (pre6 x).length, 0⟩ 1 = _ := q1
      rw [if_pos hq, E6, q1, List.length_append, q2]
    · unfold pre7
      rw [if_neg hq, if_neg hq, E6]
  have hM : modsV x.k ⟨s, 2, 0⟩ = x.mods ∧ e8 x.k ⟨s, 2, 0⟩ = ⟨s, (code x).length, 0⟩ := by
    unfold modsV e8 code
    simp only [pre_8]
    by_cases hq : x.k = 3
    · rw [if_pos hq, if_pos hq, if_pos hq]
      unfold code at hs
      simp only [pre_8] at hs
      rw [if_pos hq] at hs
      have hp8 : pre8 x = pre7 x ++ Oct.num x.mods.length 1 := by unfold pre8; rw [if_pos hq]
      obtain ⟨q1, q2⟩ := num1At (n := (x.mods.length : Int)) mlr (pre7 x) (bodyTo x.mods x.mods.length ++ c) s (by rw [hs, hp8]; simp) (pre7 x).length rfl
      have q1 : R.num ⟨s, (pre7 x).length, 0⟩ 1 = _ := q1
      have hcnt : R.count ⟨s, (pre7 x).length, 0⟩ 16 = ((x.mods.length : Int), ⟨s, (pre8 x).length, 0⟩) := by
        unfold Oct.R.count
        rw [q1]
        dsimp only
        rw [Int.toNat_natCast, if_neg (by omega), hp8, List.length_append, q2]
      have hc' : Ac.cnt (⟨s, (pre7 x).length, 0⟩ : R) = x.mods.length := by unfold Ac.cnt; rw [hcnt]; simp
      rw [E7, hc', hcnt]
      obtain ⟨m1, m2⟩ := mdsAt (pre8 x) c s x.mods hmo hs (pre8 x).length rfl x.mods.length (Nat.le_refl _)
      rw [m1, m2, List.take_length, List.length_append]
      exact ⟨rfl, rfl⟩
    · rw [if_neg hq, if_neg hq, if_neg hq]
      rw [if_neg hq] at f8
      have hp8 : pre8 x = pre7 x := by unfold pre8; rw [if_neg hq]
      rw [E7, hp8]
      exact ⟨f8.symm, rfl⟩
  refine ⟨?_, hM.2, ?_, ?_, ?_⟩
  · unfold msV
    rw [hM.1]
    have g1 : (if x.k = 1 ∨ x.k = 2 then (⟨s, 2, 0⟩ : R).int.1 else 0) = x.t1 := by
      by_cases hq : x.k = 1 ∨ x.k = 2
      · rw [if_pos hq, V1 hq]
      · rw [if_neg hq] at f1 ⊢; exact f1.symm
    have g2 : (if x.k = 2 ∨ x.k = 4 then (e1 x.k ⟨s, 2, 0⟩).int.1 else 0) = x.t2 := by
      by_cases hq : x.k = 2 ∨ x.k = 4
      · rw [if_pos hq, V2 hq]
      · rw [if_neg hq] at f2 ⊢; exact f2.symm
    have g3 : (if x.k = 2 ∨ x.k = 7 ∨ x.k = 8 then ((((e2 x.k ⟨s, 2, 0⟩).num 2).1 : Nat) : Int) else 0) = x.life := by
      by_cases hq : x.k = 2 ∨ x.k = 7 ∨ x.k = 8
      · rw [if_pos hq, V3 hq]; exact Int.toNat_of_nonneg lir.1
      · rw [if_neg hq] at f3 ⊢; exact f3.symm
    have g4 : (if 3 ≤ x.k ∧ x.k ≤ 8 then ((((e3 x.k ⟨s, 2, 0⟩).num 2).1 : Nat) : Int) else 0) = x.u := by
      by_cases hq : 3 ≤ x.k ∧ x.k ≤ 8
      · rw [if_pos hq, V4 hq]; exact Int.toNat_of_nonneg (ur hq).1
      · rw [if_neg hq] at f4 ⊢; exact f4.symm
    have g5 : (if (3 ≤ x.k ∧ x.k ≤ 8) ∧ x.k ≠ 6 then ((((e4 x.k ⟨s, 2, 0⟩).num 1).1 : Nat) : Int) - 1 else 0) = x.rd := by
      by_cases hq : (3 ≤ x.k ∧ x.k ≤ 8) ∧ x.k ≠ 6
      · rw [if_pos hq, V5 hq, Int.toNat_of_nonneg (rdr hq).1]; omega
      · rw [if_neg hq] at f5 ⊢; exact f5.symm
    have g6 : (if x.k = 7 ∨ x.k = 8 then ((((e5 x.k ⟨s, 2, 0⟩).num 1).1 : Nat) : Int) else 0) = x.of_ := by
      by_cases hq : x.k = 7 ∨ x.k = 8
      · rw [if_pos hq, V6 hq]; exact Int.toNat_of_nonneg (ofr hq).1
      · rw [if_neg hq] at f6 ⊢; exact f6.symm
    have g7 : (if x.k = 6 ∨ x.k = 8 then ((((e6 x.k ⟨s, 2, 0⟩).num 1).1 : Nat) : Int) else 0) = x.code := by
      by_cases hq : x.k = 6 ∨ x.k = 8
      · rw [if_pos hq, V7 hq]; exact Int.toNat_of_nonneg cor.1
      · rw [if_neg hq] at f7 ⊢; exact f7.symm
    rw [g1, g2, g3, g4, g5, g6, g7]
  · unfold pk; rw [k1]
  · unfold psw pr1; rw [k1]; dsimp only; rw [s1]
  · unfold pr2 pr1; rw [k1]; dsimp only; rw [s1]
theorem has_ne {k : Int} (h : 1 ≤ k ∧ k ≤ 8) : has k ≠ 0 := by
  have : k = 1 ∨ k = 2 ∨ k = 3 ∨ k = 4 ∨ k = 5 ∨ k = 6 ∨ k = 7 ∨ k = 8 := by omega
  rcases this with rfl | rfl | rfl | rfl | rfl | rfl | rfl | rfl <;> decide
theorem back2 (x : Ms) (hx : x.in64) (ho : ok x) (s c : List UInt8) (hs : s = code x ++ c) : pX s = x ∧ pE s = ⟨s, (code x).length, 0⟩ := by
  obtain ⟨h1, h2, h3, h4, h5⟩ := back x hx ho s c hs
  have hk := ho.1.1
  have hsw := ho.1.2
  have e1 : ((pk s : Nat) : Int) = x.k := by rw [h3]; omega
  have e2 : ((psw s : Nat) : Int) = x.sw := by rw [h4]; omega
  have e3 : pr3 s = ⟨s, 2, 0⟩ := by
    unfold pr3
    rw [e1, if_neg (has_ne hk), h5]
  unfold pX pE
  rw [e1, e2, e3]
  exact ⟨h1, h2⟩
theorem parse_code (x : Ms) (hx : x.in64) (ho : ok x) : parse (code x) = (x, 0) := by
  obtain ⟨h1, h2⟩ := back2 x hx ho (code x) [] (by simp)
  have e : pE2 (code x) = ⟨code x, (code x).length, 0⟩ := by
    unfold pE2
    rw [h1, h2, if_neg (fun h => h.2.2 ho)]
  have ef : pF (code x) = ⟨code x, (code x).length, 0⟩ := by
    unfold pF
    rw [e]
    unfold Oct.R.fin Oct.R.left
    dsimp only
    rw [if_neg (by rw [if_pos rfl]; omega)]
  unfold parse
  rw [ef, if_pos rfl, h1]
theorem parse_more (x : Ms) (hx : x.in64) (ho : ok x) (b : UInt8) : (parse (code x ++ [b])).2 ≠ 0 := by
  obtain ⟨h1, h2⟩ := back2 x hx ho (code x ++ [b]) [b] rfl
  have hleft : (⟨code x ++ [b], (code x).length, 0⟩ : R).left = 1 := by
    unfold Oct.R.left
    rw [if_pos rfl]
    dsimp only
    rw [List.length_append, List.length_singleton]
    omega
  have e : pE2 (code x ++ [b]) = ⟨code x ++ [b], (code x).length, 0⟩ := by
    unfold pE2
    rw [h2, if_neg (fun h => by have := h.2.1; rw [hleft] at this; exact absurd this (by decide))]
  have ef : (pF (code x ++ [b])).bad = 5 := by
    unfold pF
    rw [e]
    unfold Oct.R.fin
    rw [hleft, if_pos (by decide)]
  unfold parse
  rw [if_neg (by rw [ef]; decide)]
  rw [ef]
  decide
theorem parse_less (x : Ms) (hx : x.in64) (ho : ok x) (q : List UInt8) (b : UInt8) (hq : code x = q ++ [b]) (hl : q.length ≤ 1099511627776) : (parse q).2 ≠ 0 := by
  intro h0
  have hbF : (pF q).bad = 0 := by
    unfold parse at h0
    split at h0
    · assumption
    · exact h0
  have hb2 : (pE2 q).bad = 0 := by
    unfold pF Oct.R.fin at hbF
    split at hbF
    · dsimp only at hbF; exact absurd hbF (by decide)
    · exact hbF
  have hbE : (pE q).bad = 0 := by
    unfold pE2 at hb2
    split at hb2
    · exact (wrong_no (by decide) hb2).elim
    · exact hb2
  obtain ⟨g1, g2⟩ := ext_e8 (pk q) [b] (pr3 q) hbE
  have hz : has (pk q) ≠ 0 := fun hz => by
    unfold pr3 at g1
    rw [if_pos hz] at g1
    exact wrong_no (by decide) g1
  have h3 : pr3 q = pr2 q := by unfold pr3; rw [if_neg hz]
  rw [h3] at g1 g2
  obtain ⟨g3, g4⟩ := ext_num 1 [b] (pr1 q) g1
  obtain ⟨_, g6⟩ := ext_num 1 [b] ⟨q, 0, 0⟩ g3
  dsimp only at g4 g6
  have e0 : lift [b] ⟨q, 0, 0⟩ = (⟨code x, 0, 0⟩ : R) := by unfold lift; rw [hq]
  rw [e0] at g6
  have p1 : pk (code x) = pk q := by unfold pk; rw [g6]
  have p2 : pr1 (code x) = lift [b] (pr1 q) := by unfold pr1; rw [g6]
  have p3 : pr2 (code x) = lift [b] (pr2 q) := by unfold pr2; rw [p2, g4]
  obtain ⟨_, k2⟩ := back2 x hx ho (code x) [] (by simp)
  have p4 : pE (code x) = lift [b] (pE q) := by
    unfold pE pr3
    rw [p1, if_neg hz, if_neg hz, p3, g2]
  rw [k2] at p4
  have hi : (code x).length = (pE q).i := congrArg R.i p4
  have hs : code x = (pE q).s ++ [b] := congrArg R.s p4
  have hle := (pE_ok hl).1
  have h5 := congrArg List.length hs
  rw [List.length_append, List.length_singleton] at h5
  omega
theorem code_ge (x : Ms) (hx : x.in64) (ho : ok x) : 2 ≤ (code x).length := by
  obtain ⟨_, h2⟩ := back2 x hx ho (code x) [] (by simp)
  have h3 : (code x).length = (pre8 x).length ∨ (pre8 x).length ≤ (code x).length := by
    unfold code
    simp only [pre_8]
    split
    · exact .inr (by rw [List.length_append]; omega)
    · exact .inl rfl
  have hk := ho.1
  have a1 := (num1At (n := x.k) ⟨by omega, by omega⟩ [] [] _ rfl 0 rfl).2
  have a2 := (num1At (n := x.sw) ⟨by omega, by omega⟩ [] [] _ rfl 0 rfl).2
  have p0 : 2 ≤ (pre0 x).length := by unfold pre0; rw [List.length_append, a1, a2]; decide
  have q1 : (pre0 x).length ≤ (pre1 x).length := by unfold pre1; split <;> simp
  have q2 : (pre1 x).length ≤ (pre2 x).length := by unfold pre2; split <;> simp
  have q3 : (pre2 x).length ≤ (pre3 x).length := by unfold pre3; split <;> simp
  have q4 : (pre3 x).length ≤ (pre4 x).length := by unfold pre4; split <;> simp
  have q5 : (pre4 x).length ≤ (pre5 x).length := by unfold pre5; split <;> simp
  have q6 : (pre5 x).length ≤ (pre6 x).length := by unfold pre6; split <;> simp
  have q7 : (pre6 x).length ≤ (pre7 x).length := by unfold pre7; split <;> simp
  have q8 : (pre7 x).length ≤ (pre8 x).length := by unfold pre8; split <;> simp
  omega
end Pr
end Go.Proofs.Ytlcleiekeapkdaa

