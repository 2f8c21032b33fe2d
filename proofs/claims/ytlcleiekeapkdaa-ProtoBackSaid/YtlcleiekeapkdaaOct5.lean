/-
  What was told is read as it was.
-/
import Derived.Test.YtlcleiekeapkdaaOct4
namespace Go.Proofs.Ytlcleiekeapkdaa
open Go.Sx
set_option maxRecDepth 20000
namespace Oct
theorem val_cons (b : UInt8) (l : List UInt8) : val (b :: l) = b.toNat * 256 ^ l.length + val l := by
  have h := fold_add l (b.toNat : Int)
  rw [← fold_cast] at h
  have e : val (b :: l) = l.foldl (fun n c => n * 256 + c.toNat) b.toNat := by simp [val]
  rw [e]
  have e2 : ((b.toNat * 256 ^ l.length + val l : Nat) : Int) = (b.toNat : Int) * 256 ^ l.length + val l := by simp
  rw [← e2] at h
  exact Int.ofNat.inj h
theorem val_be (n w : Nat) : val (be n w) = n % 256 ^ w := by
  induction w with
  | zero => simp [be, val, Nat.mod_one]
  | succ w ih => rw [be, val_cons, ih, be_len, Nat.mod_pow_succ, Nat.add_comm, Nat.mul_comm]; simp
theorem take_at (p q c s : List UInt8) (e : s = p ++ q ++ c) (i : Nat) (n : Int) (hi : i = p.length) (hn : n = q.length) : R.take ⟨s, i, 0⟩ n = (q, ⟨s, i + q.length, 0⟩) := by
  subst hi hn
  rw [R.take_ok s p.length q.length (by rw [e]; simp)]
  subst e
  rw [List.append_assoc, List.drop_left, List.take_left]
theorem num_at (p c s : List UInt8) (n w : Nat) (e : s = p ++ be n w ++ c) (i : Nat) (hi : i = p.length) (h1 : 1 ≤ w) (h2 : w ≤ 7) (hn : n < 256 ^ w) : R.num ⟨s, i, 0⟩ w = (n, ⟨s, i + w, 0⟩) := by
  unfold R.num
  rw [if_neg (by omega), take_at p (be n w) c s e i w hi (by rw [be_len]), be_len, val_be, Nat.mod_eq_of_lt hn]
theorem wrap_back (n : Int) (h : -9223372036854775808 ≤ n ∧ n ≤ 9223372036854775807) : IntKind.i64.wrap (((n % 18446744073709551616).toNat % 256 ^ 8 : Nat) : Int) = n := by
  rw [Nat.mod_eq_of_lt (by omega), IntKind.wrap_i64]
  omega
theorem int_at (p c s : List UInt8) (n : Int) (hr : -9223372036854775808 ≤ n ∧ n ≤ 9223372036854775807) (e : s = p ++ be (n % 18446744073709551616).toNat 8 ++ c) (i : Nat) (hi : i = p.length) : R.int ⟨s, i, 0⟩ = (n, ⟨s, i + 8, 0⟩) := by
  unfold R.int
  rw [take_at p _ c s e i 8 hi (by rw [be_len]; rfl), be_len, val_be, wrap_back n hr]
def fl (b : Bool) : List UInt8 := if b then [1] else [0]
theorem flag_at (p c s : List UInt8) (b : Bool) (e : s = p ++ fl b ++ c) (i : Nat) (hi : i = p.length) : R.flag ⟨s, i, 0⟩ = (b, ⟨s, i + 1, 0⟩) := by
  have h : R.num ⟨s, i, 0⟩ 1 = ((if b then 1 else 0), ⟨s, i + 1, 0⟩) := by
    unfold R.num
    rw [if_neg (by decide), take_at p (fl b) c s e i 1 hi (by cases b <;> rfl)]
    cases b <;> rfl
  unfold R.flag
  rw [h]
  cases b <;> rfl
end Oct
end Go.Proofs.Ytlcleiekeapkdaa

