/-
  Which packet stands first.
-/
import Derived.Test.YtngodakgbldlpaaGreatDoorTPo13
namespace Go.Proofs.YtngodakgbldlpaaGreatDoor
open Go.Sx
set_option maxRecDepth 20000
set_option linter.unusedSimpArgs false
set_option linter.unusedVariables false
set_option maxHeartbeats 4000000
set_option linter.unusedVariables false
namespace Po
abbrev IRow (F : Heap) (v : Value) (l : List Int) : Prop := RowF F 1 (fun x us => us = [.int .i64 x]) v l
theorem IRow.at1 {F : Heap} {v : Value} {l : List Int} (h : IRow F v l) {i : Nat} {x : Int} (hx : l[i]? = some x) : F.c ((addrOf v).add i) (.int .i64 x) := by
  obtain ⟨us, rfl, _, h2⟩ := h.at_ i x hx
  rw [Nat.mul_one] at h2
  exact h2.1
def cmpL : List Int → List Int → Int
  | x :: a, y :: b => if cmpI x y ≠ 0 then cmpI x y else cmpL a b
  | _, _ => 0
theorem cmpL_nil (b : List Int) : cmpL [] b = 0 := by cases b <;> rfl
theorem cmpL_drop {a b : List Int} {i : Nat} {x y : Int} (hx : a[i]? = some x) (hy : b[i]? = some y) : cmpL (a.drop i) (b.drop i) = if cmpI x y ≠ 0 then cmpI x y else cmpL (a.drop (i + 1)) (b.drop (i + 1)) := by
  obtain ⟨h1, rfl⟩ := List.getElem?_eq_some_iff.1 hx
  obtain ⟨h2, rfl⟩ := List.getElem?_eq_some_iff.1 hy
  rw [List.drop_eq_getElem_cons h1, List.drop_eq_getElem_cons h2, cmpL]
theorem cmpS_L (x y : S) : cmpS x y = if cmpI x.port y.port ≠ 0 then cmpI x.port y.port else cmpL [x.p0, x.p1, x.p2, x.p3] [y.p0, y.p1, y.p2, y.p3] := by
  unfold cmpS
  simp only [cmpL]
  repeat' split
  all_goals first | rfl | omega
end Po
theorem cmpL_c (F : Heap) (v w : Value) (a b : List Int) (hv : Po.IRow F v a) (hw : Po.IRow F w b) (hl : a.length = b.length) (hn : a.length ≤ 1000) :
    NCall Tryz.prog 69 [.hs v a.length, .hs w b.length] [hpB F] fun r m => r = .int .i64 (Po.cmpL a b) ∧ m = [hpB F] := by
  refine NCall.fits (K := fun r m => r = .int .i64 (Po.cmpL a b) ∧ MemFits m [hpB F]) ?_ fun r m' h => ⟨r, _, rfl, h.2, h.1, rfl⟩
  have hok := hv.ok
  have hok2 := hw.ok
  refine ncall_of Tryz.func69 rfl (by decide) ?_
  repeat' first|(refine sxZ ?_;try clear hK K)|refine sxW ?_ ?_<;>intro _|(intro K hK _;(conv=>whnf))
  refine st_auto (α := Nat) (fun i => i ≤ a.length ∧ Po.cmpL a b = Po.cmpL (a.drop i) (b.drop i)) (fun i => [.keep, .keep, .keep, .keep, .set (.int .i64 0), .drop, .drop, .drop, .drop, .keep, .keep, .set (.int .i64 i), .drop, .drop, .drop, .drop, .drop, .drop, .drop, .drop, .drop, .drop, .drop, .drop, .drop, .drop, .drop, .drop, .drop, .drop, .drop, .keep, .keep, .keep, .keep, .keep]) (fun _ => []) (fun i => a.length - i) 0 ⟨Nat.zero_le _, rfl⟩ ?_ (MemFits.eq rfl) ?_
  · exact fitsGo
  (intro i ⟨hi, he⟩; intro K hK; (conv=>whnf); refine hK _ _ ?_; clear hK K)
  by_cases hlt : i < a.length
  · have hx : a[i]? = some a[i] := List.getElem?_eq_getElem hlt
    have hy : b[i]? = some (b[i]'(by omega)) := List.getElem?_eq_getElem (by omega)
    have c0 := hv.at1 hx
    have c1 := hw.at1 hy
    rw [Po.cmpL_drop hx hy] at he
    generalize a[i] = x at *
    generalize (b[i]'(by omega)) = y at *
    have cc := compare27_c x y
    generalize Po.cmpI x y = c at *
    by_cases hc : c = 0
    · rw [if_neg (by omega)] at he
      repeat' first|(intro K hK;(with_reducible refine gC ?_);refine cP cc ?_)|(refine sxZ ?_;try clear hK K)|refine sxW ?_ ?_<;>intro _|(intro K hK _;(conv=>whnf))
      all_goals first | (exfalso; omega) | skip
      all_goals
        refine st_round (i + 1) ⟨hlt, he⟩ (by omega) ?_ (MemFits.pre 1 rfl)
        exact fitsGo
    · rw [if_pos hc] at he
      rw [he]
      repeat' first|(intro K hK;(with_reducible refine gC ?_);refine cP cc ?_)|(refine sxZ ?_;try clear hK K)|refine sxW ?_ ?_<;>intro _|(intro K hK _;(conv=>whnf))
      all_goals first | (exfalso; omega) | exact ⟨rfl, MemFits.pre 1 rfl⟩
  · obtain rfl : i = a.length := by omega
    rw [List.drop_length, Po.cmpL_nil] at he
    rw [he]
    repeat' first|(refine sxZ ?_;try clear hK K)|refine sxW ?_ ?_<;>intro _|(intro K hK _;(conv=>whnf))
    all_goals first | (exfalso; omega) | exact ⟨rfl, MemFits.pre 1 rfl⟩
theorem or27_c (t : TypeId) (v : Value) (a b : Int) : NCall Tryz.prog 67 [.sl 0 v 2] [⟨addrOf v, [.int .i64 a, .int .i64 b], .row v t 1 2⟩] fun r m => r = .int .i64 (if a ≠ 0 then a else b) ∧ m = [⟨addrOf v, [.int .i64 a, .int .i64 b], .row v t 1 2⟩] := by
  refine ncall_of Tryz.func67 rfl (by decide) ?_
  by_cases ha : a = 0
  · rw [if_neg (by omega)]
    by_cases hb : b = 0
    · repeat' first|((with_reducible refine gX ?_);with_reducible refine st_rounds 4 ?_)|(refine sxZ ?_;try clear hK K)|refine sxW ?_ ?_<;>intro _|(intro K hK _;(conv=>whnf))
      all_goals first | (exfalso; omega) | exact ⟨by rw [hb], rfl⟩
    · repeat' first|((with_reducible refine gX ?_);with_reducible refine st_rounds 4 ?_)|(refine sxZ ?_;try clear hK K)|refine sxW ?_ ?_<;>intro _|(intro K hK _;(conv=>whnf))
      all_goals first | (exfalso; omega) | exact ⟨rfl, rfl⟩
  · rw [if_pos ha]
    repeat' first|((with_reducible refine gX ?_);with_reducible refine st_rounds 4 ?_)|(refine sxZ ?_;try clear hK K)|refine sxW ?_ ?_<;>intro _|(intro K hK _;(conv=>whnf))
    all_goals first | (exfalso; omega) | exact ⟨rfl, rfl⟩
end Go.Proofs.YtngodakgbldlpaaGreatDoor


