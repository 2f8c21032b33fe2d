import Derived.Test.YtgphhbadnjfbjaaDoorSxC
import Derived.Lib.ItoaMem
import Derived.Lib.ItoaLen
import Derived.Lib.AtoiAll
import Derived.Lib.TrimAscii
import Derived.Lib.Fields
namespace Go.Proofs.YtgphhbadnjfbjaaDoor
open Go.Sx
set_option linter.unusedVariables false
namespace Num
def digs (d:List UInt8):Prop:=∀ b∈d,48≤b.toNat∧b.toNat≤57
theorem digs_app {a b:List UInt8} (ha:digs a) (hb:digs b):digs (a++b):=fun x hx=>by
  rcases List.mem_append.1 hx with h | h
  · exact ha x h
  · exact hb x h
theorem digit (n:Nat) (h:n<10):(UInt8.ofNat (48+n)).toNat=48+n:=by simp;omega
theorem digit_digs (n:Nat) (h:n<10):digs [UInt8.ofNat (48+n)]:=fun b hb=>by
  rw [List.mem_singleton.1 hb,digit n h];omega
theorem dec_digs (u:Nat):digs (Lib.decDigits u):=by
  induction u using Nat.strongRecOn with
  | ind u ih =>
    rw [Lib.decDigits]
    split
    · exact digit_digs u ‹_›
    · exact digs_app (ih (u / 10) (by omega)) (digit_digs _ (by omega))
theorem dec_ne (u:Nat):Lib.decDigits u≠[]:=by
  rw [Lib.decDigits]
  split<;>simp
def add (n:Nat) (b:UInt8):Nat:=10*n+b.toNat - 48
def val (d:List UInt8):Nat:=d.foldl add 0
theorem val_snoc (d:List UInt8) (b:UInt8):val (d++[b])=10*val d+b.toNat - 48:=by simp [val,add]
theorem dec_val (u:Nat):val (Lib.decDigits u)=u:=by
  induction u using Nat.strongRecOn with
  | ind u ih =>
    rw [Lib.decDigits]
    split
    · rename_i h
      have:=digit u h
      rw [show val [UInt8.ofNat (48+u)]=10*0+(UInt8.ofNat (48+u)).toNat - 48 from rfl,this]
      omega
    · rename_i h
      rw [val_snoc,ih (u / 10) (by omega),digit (u % 10) (by omega)]
      omega
theorem dec_len (u k:Nat) (h:u<10 ^ (k+1)):(Lib.decDigits u).length≤k+1:=by
  induction k generalizing u with
  | zero =>
    rw [Lib.decDigits,dif_pos (by omega)]
    simp
  | succ k ih =>
    rw [Lib.decDigits]
    split
    · simp
    · have:=ih (u / 10) (by rw [Nat.pow_succ] at h;omega)
      rw [List.length_append]
      simp only [List.length_cons,List.length_nil]
      omega
theorem uint_snoc:∀ (l:List UInt8) (acc v:Nat) (c:UInt8),Lib.parseUint10 acc l = .ok v→(48≤c.toNat∧c.toNat≤57)→v*10+(c.toNat - 48)<9223372036854775808 →
    Lib.parseUint10 acc (l++[c]) = .ok (v*10+(c.toNat - 48))
  | [],acc,v,c,h,hc,hv=>by
    rw [Lib.parseUint10] at h
    injection h with h
    subst h
    rw [List.nil_append,Lib.parseUint10,if_pos hc,if_neg (by omega),if_neg (by omega),Lib.parseUint10]
  | b::l,acc,v,c,h,hc,hv=>by
    rw [Lib.parseUint10] at h
    rw [List.cons_append,Lib.parseUint10]
    split at h
    · rename_i h1
      rw [if_pos h1]
      split at h
      · cases h
      · rename_i h2
        rw [if_neg h2]
        split at h
        · cases h
        · rename_i h3
          rw [if_neg h3]
          exact uint_snoc l _ v c h hc hv
    · cases h
theorem uint_dec (u:Nat) (h:u<9223372036854775808):Lib.parseUint10 0 (Lib.decDigits u) = .ok u:=by
  induction u using Nat.strongRecOn with
  | ind u ih =>
    rw [Lib.decDigits]
    split
    · rename_i h1
      have hd:=digit u h1
      rw [Lib.parseUint10,if_pos (by omega),if_neg (by omega),if_neg (by omega),Lib.parseUint10,hd]
      congr 1;omega
    · rename_i h1
      have hd:=digit (u % 10) (by omega)
      rw [uint_snoc _ _ (u / 10) _ (ih _ (by omega) (by omega)) (by omega) (by omega),hd]
      congr 1;omega
end Num
end Go.Proofs.YtgphhbadnjfbjaaDoor
