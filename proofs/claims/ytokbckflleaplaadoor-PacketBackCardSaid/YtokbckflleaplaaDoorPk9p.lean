/-
  Packets: what was put is got, all else stays; what was told is read as it was. Plain laws.
-/
import Derived.Test.YtokbckflleaplaaDoorPk2
import Derived.Test.YtokbckflleaplaaDoorPk6
namespace Go.Proofs.YtokbckflleaplaaDoor
open Go.Sx
set_option linter.unusedVariables false
namespace Pk
theorem top_cases : Mt.top 0 = 255 ∧ Mt.top 1 = 255 ∧ Mt.top 2 = 15 ∧ Mt.top 3 = 255 := by decide
theorem with_ok {p : Ac.P4} (h : okP p) (f v : Int) : okP (Ac.withF p f v) := by
  unfold Ac.withF
  split
  · rename_i hv
    obtain ⟨h0, h1, h2, h3⟩ := hv
    obtain ⟨a0, a1, a2, a3⟩ := h
    obtain ⟨t0, t1, t2, t3⟩ := top_cases
    obtain ⟨pa, pb, pc, pd⟩ := p
    dsimp only at *
    have hf : f = 0 ∨ f = 1 ∨ f = 2 ∨ f = 3 := by omega
    rcases hf with rfl | rfl | rfl | rfl
    · rw [t0] at h3; exact ⟨⟨h2, h3⟩, a1, a2, a3⟩
    · rw [t1] at h3; exact ⟨a0, ⟨h2, h3⟩, a2, a3⟩
    · rw [t2] at h3; exact ⟨a0, a1, ⟨h2, h3⟩, a3⟩
    · rw [t3] at h3; exact ⟨a0, a1, a2, h2, h3⟩
  · exact h
theorem get_other {p : Ac.P4} {f v g : Int} (h : g ≠ f) : get (Ac.withF p f v) g = get p g := by
  unfold get Ac.withF
  split
  · rename_i hg
    split
    · rename_i hv
      rw [Ac.get_set ⟨hv.1, hv.2.1⟩ hg, if_neg h]
    · rfl
  · rfl
theorem get_same {p : Ac.P4} {f v : Int} (h : Ac.valid f v) : get (Ac.withF p f v) f = v := by
  unfold get Ac.withF
  rw [if_pos ⟨h.1, h.2.1⟩, if_pos h, Ac.get_set ⟨h.1, h.2.1⟩ ⟨h.1, h.2.1⟩, if_pos rfl]
theorem with_back {p : Ac.P4} (h : okP p) {f v : Int} (hv : Ac.valid f v) : Ac.withF (Ac.withF p f v) f (p.get f) = p := by
  obtain ⟨h0, h1, h2, h3⟩ := hv
  have hv : Ac.valid f v := ⟨h0, h1, h2, h3⟩
  obtain ⟨a0, a1, a2, a3⟩ := h
  obtain ⟨t0, t1, t2, t3⟩ := top_cases
  obtain ⟨pa, pb, pc, pd⟩ := p
  dsimp only at *
  have hf : f = 0 ∨ f = 1 ∨ f = 2 ∨ f = 3 := by omega
  have e : Ac.withF ⟨pa, pb, pc, pd⟩ f v = Ac.P4.set ⟨pa, pb, pc, pd⟩ f v := if_pos hv
  rw [e]
  rcases hf with rfl | rfl | rfl | rfl
  · exact if_pos ⟨by decide, by decide, a0.1, by rw [t0]; exact a0.2⟩
  · exact if_pos ⟨by decide, by decide, a1.1, by rw [t1]; exact a1.2⟩
  · exact if_pos ⟨by decide, by decide, a2.1, by rw [t2]; exact a2.2⟩
  · exact if_pos ⟨by decide, by decide, a3.1, by rw [t3]; exact a3.2⟩
/-! ### Read as it was told -/
theorem num_byte {s : List UInt8} {i : Nat} {b : UInt8} (h : s[i]? = some b) : Oct.R.num ⟨s, i, 0⟩ 1 = (b.toNat, ⟨s, i + 1, 0⟩) := by
  have hi : i < s.length := (List.getElem?_eq_some_iff.1 h).1
  have e : (s.drop i).take 1 = [b] := by
    rw [List.drop_eq_getElem_cons hi]
    have := (List.getElem?_eq_some_iff.1 h).2
    simp [this]
  have ht : Oct.R.take ⟨s, i, 0⟩ 1 = ([b], ⟨s, i + 1, 0⟩) := by
    unfold Oct.R.take
    rw [if_neg (by simp), if_neg (by decide), if_neg (by dsimp only; omega)]
    rw [show (1 : Int).toNat = 1 from rfl, e]
  unfold Oct.R.num
  rw [if_neg (by decide), ht]
  simp [Oct.val]
theorem num1_is {n : Int} (h : 0 ≤ n ∧ n < 256) : Oct.num n 1 = [UInt8.ofNat n.toNat] := by
  obtain ⟨m, rfl⟩ := Int.eq_ofNat_of_zero_le h.1
  unfold Oct.num
  rw [if_neg (by simp; omega)]
  simp [Oct.be]
theorem code_is {p : Ac.P4} (h : okP p) : code p = [UInt8.ofNat p.a.toNat, UInt8.ofNat p.b.toNat, UInt8.ofNat p.c.toNat, UInt8.ofNat p.d.toNat] := by
  obtain ⟨h0, h1, h2, h3⟩ := ok_small h
  unfold code
  rw [if_pos h, num1_is (by omega), num1_is (by omega), num1_is (by omega), num1_is (by omega)]
  rfl
theorem read_back {p : Ac.P4} (h : okP p) : rdV ⟨code p, 0, 0⟩ = p ∧ rdR ⟨code p, 0, 0⟩ = ⟨code p, 4, 0⟩ ∧ (code p).length = 4 := by
  obtain ⟨h0, h1, h2, h3⟩ := ok_small h
  have hc := code_is h
  have h15 := h.2.2.1
  obtain ⟨pa, pb, pc, pd⟩ := p
  dsimp only at *
  generalize code ⟨pa, pb, pc, pd⟩ = s at *
  have b0 : (UInt8.ofNat pa.toNat).toNat = pa.toNat := by simp; omega
  have b1 : (UInt8.ofNat pb.toNat).toNat = pb.toNat := by simp; omega
  have b2 : (UInt8.ofNat pc.toNat).toNat = pc.toNat := by simp; omega
  have b3 : (UInt8.ofNat pd.toNat).toNat = pd.toNat := by simp; omega
  have r0 : Oct.R.num ⟨s, 0, 0⟩ 1 = (pa.toNat, ⟨s, 1, 0⟩) := by rw [num_byte (b := UInt8.ofNat pa.toNat) (by rw [hc]; rfl), b0]
  have r1 : Oct.R.num ⟨s, 1, 0⟩ 1 = (pb.toNat, ⟨s, 2, 0⟩) := by rw [num_byte (b := UInt8.ofNat pb.toNat) (by rw [hc]; rfl), b1]
  have r2 : Oct.R.num ⟨s, 2, 0⟩ 1 = (pc.toNat, ⟨s, 3, 0⟩) := by rw [num_byte (b := UInt8.ofNat pc.toNat) (by rw [hc]; rfl), b2]
  have r3 : Oct.R.num ⟨s, 3, 0⟩ 1 = (pd.toNat, ⟨s, 4, 0⟩) := by rw [num_byte (b := UInt8.ofNat pd.toNat) (by rw [hc]; rfl), b3]
  have n0 : Oct.nsq ⟨s, 0, 0⟩ 0 = pa.toNat := by unfold Oct.nsq Oct.rsq; rw [r0]
  have s1 : Oct.rsq ⟨s, 0, 0⟩ 1 = ⟨s, 1, 0⟩ := by unfold Oct.rsq Oct.rsq; rw [r0]
  have n1 : Oct.nsq ⟨s, 0, 0⟩ 1 = pb.toNat := by unfold Oct.nsq; rw [s1, r1]
  have s2 : Oct.rsq ⟨s, 0, 0⟩ 2 = ⟨s, 2, 0⟩ := by unfold Oct.rsq; rw [s1, r1]
  have n2 : Oct.nsq ⟨s, 0, 0⟩ 2 = pc.toNat := by unfold Oct.nsq; rw [s2, r2]
  have s3 : Oct.rsq ⟨s, 0, 0⟩ 3 = ⟨s, 3, 0⟩ := by unfold Oct.rsq; rw [s2, r2]
  have e3 : rd3 ⟨s, 0, 0⟩ = ⟨s, 3, 0⟩ := by unfold rd3; rw [n2, if_neg (by omega), s3]
  have eR : rdR ⟨s, 0, 0⟩ = ⟨s, 4, 0⟩ := by unfold rdR; rw [e3, r3]
  refine ⟨?_, eR, by rw [hc]; rfl⟩
  unfold rdV
  rw [eR, if_pos rfl, n0, n1, n2, e3, r3]
  rw [Int.toNat_of_nonneg h0.1, Int.toNat_of_nonneg h1.1, Int.toNat_of_nonneg h2.1, Int.toNat_of_nonneg h3.1]
end Pk
end Go.Proofs.YtokbckflleaplaaDoor
