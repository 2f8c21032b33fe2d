/-
  Rules: what was told is read as it was.
-/
import Derived.Test.YtlcleiekeapkdaaRu1
import Derived.Test.YtlcleiekeapkdaaAc4
namespace Go.Proofs.Ytlcleiekeapkdaa
open Go.Sx
set_option maxRecDepth 20000
set_option linter.unusedVariables false
namespace Oct
theorem num_byte {s : List UInt8} {i : Nat} {b : UInt8} (h : s[i]? = some b) : R.num ⟨s, i, 0⟩ 1 = (b.toNat, ⟨s, i + 1, 0⟩) := by
  have hi : i < s.length := (List.getElem?_eq_some_iff.1 h).1
  have e : (s.drop i).take 1 = [b] := by
    rw [List.drop_eq_getElem_cons hi]
    have := (List.getElem?_eq_some_iff.1 h).2
    simp [this]
  have ht : R.take ⟨s, i, 0⟩ 1 = ([b], ⟨s, i + 1, 0⟩) := by
    unfold R.take
    rw [if_neg (by simp), if_neg (by decide), if_neg (by dsimp only; omega)]
    rw [show (1 : Int).toNat = 1 from rfl, e]
  unfold R.num
  rw [if_neg (by decide), ht]
  simp [val]
theorem seq_byte {s : List UInt8} {i : Nat} : ∀ k, i + k ≤ s.length → rsq ⟨s, i, 0⟩ k = ⟨s, i + k, 0⟩
  | 0, _ => rfl
  | k + 1, h => by
    have hk : i + k < s.length := h
    have := num_byte (s := s) (i := i + k) (List.getElem?_eq_getElem hk)
    unfold rsq
    rw [seq_byte k (by omega), this]
    rfl
theorem nsq_byte {s : List UInt8} {i k : Nat} {b : UInt8} (h : s[i + k]? = some b) : nsq ⟨s, i, 0⟩ k = b.toNat := by
  have hk : i + k < s.length := (List.getElem?_eq_some_iff.1 h).1
  unfold nsq
  rw [seq_byte k (by omega), num_byte h]
theorem num1_is {n : Int} (h : 0 ≤ n ∧ n < 256) : Oct.num n 1 = [UInt8.ofNat n.toNat] := by
  obtain ⟨m, rfl⟩ := Int.eq_ofNat_of_zero_le h.1
  unfold Oct.num
  rw [if_neg (by simp; omega)]
  simp [Oct.be]
theorem u8_is {n : Nat} (h : n < 256) : (UInt8.ofNat n).toNat = n := by simp [Nat.mod_eq_of_lt h]
theorem at_mid (p q c : List UInt8) (k : Nat) (hk : k < q.length) : (p ++ q ++ c)[p.length + k]? = q[k]? := by
  rw [List.append_assoc, List.getElem?_append_right (by omega), Nat.add_sub_cancel_left, List.getElem?_append_left hk]
end Oct
namespace Mt
theorem code_is (x : N) (hx : x.lt) (hp : -1 ≤ x.p ∧ x.p ≤ 7) : codeTo x 4 = [UInt8.ofNat (x.p + 1).toNat, UInt8.ofNat x.v0, UInt8.ofNat x.m0, UInt8.ofNat x.v1, UInt8.ofNat x.m1, UInt8.ofNat x.v2, UInt8.ofNat x.m2, UInt8.ofNat x.v3, UInt8.ofNat x.m3] := by
  obtain ⟨⟨h0, k0⟩, ⟨h1, k1⟩, ⟨h2, k2⟩, h3, k3⟩ := all4.1 hx
  have e : ∀ n : Nat, n < 256 → Oct.num (n : Int) 1 = [UInt8.ofNat n] := fun n hn => by
    have := Oct.num1_is (n := (n : Int)) (by omega)
    rwa [Int.toNat_natCast] at this
  unfold codeTo codeTo codeTo codeTo codeTo
  rw [e _ h0, e _ k0, e _ h1, e _ k1, e _ h2, e _ k2, e _ h3, e _ k3, Oct.num1_is (by omega)]
  rfl
theorem back_at (p c s : List UInt8) (x : N) (hx : x.ok) (hs : s = p ++ codeTo x 4 ++ c) : rdV ⟨s, p.length, 0⟩ = x.toM ∧ rdR ⟨s, p.length, 0⟩ = ⟨s, p.length + 9, 0⟩ ∧ (codeTo x 4).length = 9 := by
  obtain ⟨⟨h0, k0⟩, ⟨h1, k1⟩, ⟨h2, k2⟩, h3, k3⟩ := all4.1 hx.lt
  have hp := hx.1
  simp only [N.v, N.m] at h0 h1 h2 h3 k0 k1 k2 k3
  have hl := code_is x hx.lt hx.1
  have hlen : (codeTo x 4).length = 9 := by rw [hl]; rfl
  have hat : ∀ k, k < 9 → s[p.length + k]? = (codeTo x 4)[k]? := fun k hk => by rw [hs]; exact Oct.at_mid p _ c k (by omega)
  have hsl : p.length + 9 ≤ s.length := by rw [hs]; simp only [List.length_append]; omega
  rw [hl] at hat
  have e := @Oct.u8_is
  have hM : rdM ⟨s, p.length, 0⟩ = x.toM := by
    unfold rdM
    rw [Oct.nsq_byte (hat 0 (by decide)), Oct.nsq_byte (hat 1 (by decide)), Oct.nsq_byte (hat 2 (by decide)), Oct.nsq_byte (hat 3 (by decide)), Oct.nsq_byte (hat 4 (by decide)), Oct.nsq_byte (hat 5 (by decide)), Oct.nsq_byte (hat 6 (by decide)), Oct.nsq_byte (hat 7 (by decide)), Oct.nsq_byte (hat 8 (by decide))]
    rw [e h0, e h1, e h2, e h3, e k0, e k1, e k2, e k3, e (show (x.p + 1).toNat < 256 by omega)]
    unfold N.toM
    rw [show (((x.p + 1).toNat : Nat) : Int) - 1 = x.p by omega]
  have hR : rdR ⟨s, p.length, 0⟩ = ⟨s, p.length + 9, 0⟩ := by
    unfold rdR
    rw [hM, if_pos ((N.ok_iff x).2 hx), Oct.seq_byte 9 hsl]
  refine ⟨?_, hR, hlen⟩
  unfold rdV
  rw [hR, hM, if_pos rfl]
end Mt
namespace Ac
theorem enc_is {ports : Int} {x : A} (h : ok1 ports x) (hp : ports ≤ 256) : enc1 x = [UInt8.ofNat x.k.toNat, UInt8.ofNat x.f.toNat, UInt8.ofNat x.v.toNat] ∧ (0 ≤ x.k ∧ x.k < 256) ∧ (0 ≤ x.f ∧ x.f < 256) ∧ (0 ≤ x.v ∧ x.v < 256) := by
  have ht := Mt.top_lt x.f
  have h3 : (0 ≤ x.k ∧ x.k < 256) ∧ (0 ≤ x.f ∧ x.f < 256) ∧ (0 ≤ x.v ∧ x.v < 256) := by
    rcases h with h | h | h <;> omega
  refine ⟨?_, h3⟩
  unfold enc1
  rw [Oct.num1_is h3.1, Oct.num1_is h3.2.1, Oct.num1_is h3.2.2]
  rfl
theorem encs_len {ports : Int} (hp : ports ≤ 256) : ∀ (l : List A), (∀ x ∈ l, ok1 ports x) → (l.flatMap enc1).length = 3 * l.length
  | [], _ => rfl
  | x :: l, h => by
    rw [List.flatMap_cons, List.length_append, encs_len hp l (fun y hy => h y (by simp [hy])), (enc_is (h x (by simp)) hp).1]
    simp; omega
theorem back_list (p c s : List UInt8) (ports : Int) (hp : ports ≤ 256) (l : List A) (hl : ∀ x ∈ l, ok1 ports x) (hs : s = p ++ l.flatMap enc1 ++ c) : ∀ k, k ≤ l.length → stR ports ⟨s, p.length, 0⟩ k = ⟨s, p.length + 3 * k, 0⟩ ∧ lst ports ⟨s, p.length, 0⟩ k = l.take k
  | 0, _ => ⟨rfl, rfl⟩
  | k + 1, hk => by
    obtain ⟨h1, h2⟩ := back_list p c s ports hp l hl hs k (by omega)
    have hx := hl l[k] (List.getElem_mem (by omega))
    obtain ⟨he, b1, b2, b3⟩ := enc_is hx hp
    have hpre := encs_len hp (l.take k) (fun x hx => hl x (List.mem_of_mem_take hx))
    rw [List.length_take, Nat.min_eq_left (by omega)] at hpre
    have hsplit : s = (p ++ (l.take k).flatMap enc1) ++ enc1 l[k] ++ ((l.drop (k + 1)).flatMap enc1 ++ c) := by
      rw [hs]
      have hq : l = l.take k ++ l[k] :: l.drop (k + 1) := by
        rw [List.getElem_cons_drop]; exact (List.take_append_drop k l).symm
      conv => lhs; rw [hq]
      rw [List.flatMap_append, List.flatMap_cons]
      simp only [List.append_assoc]
    have hpl : (p ++ (l.take k).flatMap enc1).length = p.length + 3 * k := by rw [List.length_append, hpre]
    have hat : ∀ j, j < 3 → s[p.length + 3 * k + j]? = (enc1 l[k])[j]? := fun j hj => by
      rw [← hpl]
      conv => lhs; rw [hsplit]
      exact Oct.at_mid _ _ _ j (by rw [he]; exact hj)
    have hsl : p.length + 3 * k + 3 ≤ s.length := by
      have := congrArg List.length hsplit
      rw [List.length_append, List.length_append, hpl, he] at this
      simp only [List.length_cons, List.length_nil] at this
      omega
    rw [he] at hat
    have ha : actOf ⟨s, p.length + 3 * k, 0⟩ = l[k] := by
      unfold actOf
      rw [Oct.nsq_byte (hat 0 (by decide)), Oct.nsq_byte (hat 1 (by decide)), Oct.nsq_byte (hat 2 (by decide)), Oct.u8_is (by omega), Oct.u8_is (by omega), Oct.u8_is (by omega)]
      generalize l[k] = y at *
      obtain ⟨yk, yf, yv⟩ := y
      dsimp only at *
      rw [Int.toNat_of_nonneg b1.1, Int.toNat_of_nonneg b2.1, Int.toNat_of_nonneg b3.1]
    constructor
    · unfold stR stepR
      rw [h1, ha, if_pos hx, Oct.seq_byte 3 hsl]
      congr 1
    · unfold lst
      rw [h1, h2, ha, List.take_succ_eq_append_getElem (by omega)]
theorem back_at (p c s : List UInt8) (ports : Int) (hp : ports ≤ 256) (l : List A) (hl : okL ports l) (hs : s = p ++ code l ++ c) : rdList ports ⟨s, p.length, 0⟩ = l ∧ rdEnd ports ⟨s, p.length, 0⟩ = ⟨s, p.length + (code l).length, 0⟩ := by
  have hn : Oct.num (l.length : Int) 1 = [UInt8.ofNat l.length] := by
    have := Oct.num1_is (n := (l.length : Int)) (by have := hl.1; omega)
    rwa [Int.toNat_natCast] at this
  have hcode : code l = [UInt8.ofNat l.length] ++ l.flatMap enc1 := by unfold code; rw [hn]
  have h0 : s[p.length]? = some (UInt8.ofNat l.length) := by
    rw [hs, hcode]
    simp
  have hc : Oct.R.count ⟨s, p.length, 0⟩ 16 = ((l.length : Int), ⟨s, p.length + 1, 0⟩) := by
    unfold Oct.R.count
    rw [Oct.num_byte h0, Oct.u8_is (by have := hl.1; omega), if_neg (by have := hl.1; dsimp only; omega)]
  have hcn : cnt ⟨s, p.length, 0⟩ = l.length := by
    unfold cnt
    rw [hc]; simp
  have hb := back_list (p ++ [UInt8.ofNat l.length]) c s ports hp l hl.2 (by rw [hs, hcode]; simp) l.length (Nat.le_refl _)
  rw [List.take_length, List.length_append, List.length_singleton] at hb
  have hlen := encs_len hp l hl.2
  have hE : rdEnd ports ⟨s, p.length, 0⟩ = ⟨s, p.length + (code l).length, 0⟩ := by
    unfold rdEnd
    rw [hc, hcn, hb.1, hcode, List.length_append, hlen, List.length_singleton]
    congr 1
    omega
  refine ⟨?_, hE⟩
  unfold rdList
  rw [hE, if_pos rfl, hc, hcn, hb.2]
end Ac
end Go.Proofs.Ytlcleiekeapkdaa

