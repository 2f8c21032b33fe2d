/-
  Conditions: their text. Plain; The order of packets.
-/
import Derived.Test.YtngodakgbldlpaaGreatDoorTPd1p
import Derived.Lib.Join
import Derived.Lib.ItoaLen
import Derived.Test.YtngodakgbldlpaaGreatDoorTPo14
namespace Go.Proofs.YtngodakgbldlpaaGreatDoor
open Go.Sx
set_option maxRecDepth 20000
set_option linter.unusedVariables false
namespace Pd
def word (f : Int) : List UInt8 :=
  if f = 0 then [115, 114, 99] else if f = 1 then [100, 115, 116] else if f = 2 then [107, 105, 110, 100] else if f = 3 then [116, 97, 103] else if f = 4 then [112, 111, 114, 116] else [115, 119, 105, 116, 99, 104]
def sepOf (k : Int) : List UInt8 := if k = 5 then [32, 97, 110, 100, 32] else [32, 111, 114, 32]
def innerT (k : Int) (s : List UInt8) : List UInt8 := if k = 5 ∨ k = 6 then 40 :: (s ++ [41]) else s
mutual
def text : T → List UInt8
  | .mk k f v l => if k = 1 then [116, 114, 117, 101] else if k = 2 then [102, 97, 108, 115, 101] else if k = 3 then word f ++ ([32, 61, 32] ++ Lib.itoa v)
    else if k = 4 then [110, 111, 116, 32] ++ Lib.join (parts l) [] else Lib.join (parts l) (sepOf k)
def parts : List T → List (List UInt8)
  | [] => []
  | p :: l => innerT p.k (text p) :: parts l
end
theorem parts_map (l : List T) : parts l = l.map fun p => innerT p.k (text p) := by
  induction l with
  | nil => rfl
  | cons p l ih => rw [parts, ih]; rfl
theorem parts_take {l : List T} {i : Nat} (h : i < l.length) : parts (l.take (i + 1)) = parts (l.take i) ++ [innerT l[i].k (text l[i])] := by
  rw [parts_map, parts_map, List.take_add_one, List.getElem?_eq_getElem h, List.map_append]
  rfl
theorem parts_len (l : List T) : (parts l).length = l.length := by rw [parts_map, List.length_map]
theorem word_len (f : Int) : (word f).length ≤ 6 := by
  unfold word
  repeat' split
  all_goals decide
theorem innerT_len (k : Int) (s : List UInt8) : (innerT k s).length ≤ s.length + 2 := by
  unfold innerT
  split
  · simp
  · omega
theorem joinTail_len (sep : List UInt8) : ∀ r : List (List UInt8), (Lib.joinTail sep r).length = (r.map fun x => sep.length + x.length).sum
  | [] => rfl
  | x :: r => by
    have := joinTail_len sep r
    unfold Lib.joinTail at *
    simp only [List.map_cons, List.flatten_cons, List.length_append, List.sum_cons, this]
theorem join_le (sep : List UInt8) (r : List (List UInt8)) : (Lib.join r sep).length ≤ (r.map fun x => sep.length + x.length).sum := by
  cases r with
  | nil => simp [Lib.join, List.intercalate]
  | cons x r =>
    rw [Lib.join_cons, List.length_append, joinTail_len, List.map_cons, List.sum_cons]
    omega
theorem top_lt (f : Int) : top f ≤ 255 := by unfold top; split <;> first | omega | (split <;> first | omega | (split <;> omega))
mutual
theorem text_len : ∀ p : T, fits p = true → (text p).length + 7 ≤ 40 * size p
  | .mk k f v l, h => by
    rw [fits, Bool.and_eq_true] at h
    have hp := parts_sum l h.2
    have hj0 := join_le [] (parts l)
    have hj := join_le (sepOf k) (parts l)
    have hs : (sepOf k).length ≤ 5 := by unfold sepOf; split <;> decide
    have h0 : ((parts l).map fun x => ([] : List UInt8).length + x.length).sum ≤ ((parts l).map fun x => 5 + x.length).sum := sum_le _ (by simp)
    have h5 : ((parts l).map fun x => (sepOf k).length + x.length).sum ≤ ((parts l).map fun x => 5 + x.length).sum := sum_le _ hs
    have hw := word_len f
    rw [size, text]
    split
    · simp only [List.length_cons, List.length_nil]; omega
    split
    · simp only [List.length_cons, List.length_nil]; omega
    split
    · rename_i hk
      have h1 := h.1
      unfold shape at h1
      rw [decide_eq_true_eq] at h1
      have ht := top_lt f
      have := Lib.itoa_length_le v (by omega) (by omega)
      simp only [List.length_append, List.length_cons, List.length_nil]
      omega
    split
    · simp only [List.length_append, List.length_cons, List.length_nil]; omega
    · omega
theorem parts_sum : ∀ l : List T, fitsL l = true → ((parts l).map fun x => 5 + x.length).sum ≤ 40 * sizeL l
  | [], _ => by simp [parts]
  | p :: l, h => by
    rw [fitsL, Bool.and_eq_true] at h
    have h1 := text_len p h.1
    have h2 := parts_sum l h.2
    have h3 := innerT_len p.k (text p)
    rw [parts, sizeL, List.map_cons, List.sum_cons]
    omega
theorem sum_le {a b : Nat} : ∀ r : List (List UInt8), a ≤ b → (r.map fun x => a + x.length).sum ≤ (r.map fun x => b + x.length).sum
  | [], _ => by simp
  | x :: r, h => by have := sum_le r h; rw [List.map_cons, List.map_cons, List.sum_cons, List.sum_cons]; omega
end
end Pd
end Go.Proofs.YtngodakgbldlpaaGreatDoor
namespace Go.Proofs.YtngodakgbldlpaaGreatDoor
open Go.Sx
set_option maxRecDepth 20000
set_option linter.unusedSimpArgs false
set_option linter.unusedVariables false
set_option maxHeartbeats 4000000
set_option linter.unusedVariables false
namespace Po
/-- A packet's fields behind its port, as a slice. -/
theorem part_row {F : Heap} {b : Nat} {x : S} (h : CellsF F ⟨b, 0, .none⟩ 0 x.vs) : IRow F (.slice (some ((⟨b, 0, .none⟩ : Addr).add 1)) 4 4) [x.p0, x.p1, x.p2, x.p3] := by
  refine ⟨⟨some ((⟨b, 0, .none⟩ : Addr).add 1), 4, rfl, Nat.le_refl _, fun e => by cases e⟩, fun i y hy => ?_⟩
  obtain ⟨_, h1, h2, h3, h4, _⟩ := h
  refine ⟨[.int .i64 y], rfl, rfl, ?_, trivial⟩
  match i, hy with
  | 0, hy => cases hy; exact h1
  | 1, hy => cases hy; exact h2
  | 2, hy => cases hy; exact h3
  | 3, hy => cases hy; exact h4
  | n + 4, hy => simp at hy
end Po
theorem order27_c (x y : Po.S) : NCall Tryz.prog 38 [.agg x.av, .agg y.av] [hpB noHeap] fun r _ => r = .int .i64 (Po.cmpS x y) := by
  refine NCall.fits (K := fun r m => r = .int .i64 (Po.cmpS x y)) ?_ fun r m' h => ⟨r, _, rfl, MemFits.eq rfl, h⟩
  have c0 := compare27_c x.port y.port
  have k1 : ∀ b1 b2 : Nat, NCall Tryz.prog 69 [.raw (.slice (some ((⟨b1, 0, none⟩ : Addr).add 1)) 4 4), .raw (.slice (some ((⟨b2, 0, none⟩ : Addr).add 1)) 4 4)] [hpB noHeap, ⟨⟨b1, 0, none⟩, x.av, .var 63⟩, ⟨⟨b2, 0, none⟩, y.av, .var 63⟩] fun r m => r = .int .i64 (Po.cmpL [x.p0, x.p1, x.p2, x.p3] [y.p0, y.p1, y.p2, y.p3]) ∧ m = [hpB noHeap, ⟨⟨b1, 0, none⟩, x.av, .var 63⟩, ⟨⟨b2, 0, none⟩, y.av, .var 63⟩] := fun b1 b2 =>
    NCall.keep (cmpL_c (addF (addF noHeap ⟨b1, 0, none⟩ (denL x.av)) ⟨b2, 0, none⟩ (denL y.av)) (.slice (some ((⟨b1, 0, none⟩ : Addr).add 1)) 4 4) (.slice (some ((⟨b2, 0, none⟩ : Addr).add 1)) 4 4) [x.p0, x.p1, x.p2, x.p3] [y.p0, y.p1, y.p2, y.p3]
      (RowF.mono addF.old (fun _ _ h => h) (Po.part_row addF.new)) (Po.part_row addF.new) rfl (by simp)) rfl (MemFits.freezeVar.trans MemFits.freezeVar) rfl fun r mL' h => ⟨r, rfl, h.1, rfl⟩
  rw [Po.cmpS_L]
  generalize Po.cmpL [x.p0, x.p1, x.p2, x.p3] [y.p0, y.p1, y.p2, y.p3] = c2 at *
  generalize Po.cmpI x.port y.port = c1 at *
  have co : ∀ b : Nat, NCall Tryz.prog 67 [.sl 0 (.slice (some ⟨b, 0, none⟩) 2 2) 2] [⟨⟨b, 0, none⟩, [.int .i64 c1, .int .i64 c2], .row (.slice (some ⟨b, 0, none⟩) 2 2) 3 1 2⟩] fun r m => r = .int .i64 (if c1 ≠ 0 then c1 else c2) ∧ m = [⟨⟨b, 0, none⟩, [.int .i64 c1, .int .i64 c2], .row (.slice (some ⟨b, 0, none⟩) 2 2) 3 1 2⟩] := fun b => or27_c _ _ c1 c2
  refine ncall_of Tryz.func38 rfl (by decide) ?_
  obtain ⟨a0, a, b, c, d⟩ := x
  obtain ⟨a0', a', b', c', d'⟩ := y
  unfold Po.S.av at *
  simp only at *
  repeat' first|(intro K hK;(with_reducible refine gC ?_);first|refine cP c0 ?_|refine cS [0, 1, 2] (k1 _ _) ?_|refine cS [3] (co _) ?_)|(refine sxZK [] ?_;try clear hK K)|refine sxW ?_ ?_<;>intro _|refine sxVK ?_ ?_|(intro K hK _;(conv=>whnf))
  all_goals rfl
/-- What turned nothing has laid some blocks, and drawn some answers. -/
theorem Fr.grow {w w' : World} (h : Fr (fun _ => False) w w') (hd : w.drawn ≤ w'.drawn) : ∃ (q : Nat) (os : Array Obj), w' = Go.Sort.grow (w.drewN q) os := by
  obtain ⟨hp, tp, dr, os, out⟩ := w
  obtain ⟨hp', tp', dr', os', out'⟩ := w'
  obtain ⟨h1, h2, h3, h4, h5⟩ := h
  simp only at h1 h2 h3 h4 h5 hd
  subst h1 h2 h3
  refine ⟨dr' - dr, hp'.extract hp.size hp'.size, ?_⟩
  have e : hp ++ hp'.extract hp.size hp'.size = hp' := by
    apply Array.ext
    · simp; omega
    · intro i hi hj
      by_cases hlt : i < hp.size
      · rw [Array.getElem_append_left hlt]
        have := h5 i hlt (fun h => h)
        rw [Array.getElem?_eq_getElem hj, Array.getElem?_eq_getElem hlt] at this
        injection this with this
        exact this.symm
      · rw [Array.getElem_append_right (by omega)]
        simp only [Array.getElem_extract]
        congr 1
        omega
  unfold Go.Sort.grow World.drewN
  simp only [World.mk.injEq]
  exact ⟨e.symm, trivial, by omega, trivial, trivial⟩
theorem memOk_none (W : World) : MemOk [hpB noHeap] W := ⟨fun k hk => by
  rw [List.mem_singleton] at hk
  subst hk
  exact ⟨rfl, fun a u h => h.elim, fun b o h => h.elim⟩, by simp⟩
theorem order27_x (x y : Po.S) (W : World) : Calls Tryz.prog 38 #[.agg x.vs.toArray, .agg y.vs.toArray] W fun e w' => e = .returned (.int .i64 (Po.cmpS x y)) ∧ ∃ (q : Nat) (os : Array Obj), w' = Go.Sort.grow (W.drewN q) os := by
  have h := (NCall_iff.1 (order27_c x y)).2 W (memOk_none W)
  have h := Calls_up h fun e w' ⟨r, m', _, he, _⟩ => ⟨_, he⟩
  refine h.mono fun e w' ⟨⟨r, m', hr, he, _, hf, _⟩, hd⟩ => ?_
  subst hr
  refine ⟨he, Fr.grow ⟨hf.os, hf.tape, hf.output, hf.size, fun k hk _ => hf.block k hk fun ⟨k', h1, h2, _⟩ => ?_⟩ hd⟩
  rw [List.mem_singleton] at h1
  subst h1
  cases h2
end Go.Proofs.YtngodakgbldlpaaGreatDoor
