/-
  Are two slices of packets the same?
-/
import Derived.Test.YtngodakgbldlpaaGreatDoorTSxK
import Derived.Test.YtngodakgbldlpaaGreatDoorTJ3
namespace Go.Proofs.YtngodakgbldlpaaGreatDoor
open Go.Sx
set_option maxRecDepth 20000
set_option linter.unusedSimpArgs false
set_option linter.unusedVariables false
set_option maxHeartbeats 4000000
set_option linter.unusedVariables false
theorem po_boolT {p : Prop} {_ : Decidable p} (h : p) : AV.bool true = .bool (decide p) := by rw [decide_eq_true h]
theorem po_boolF {p : Prop} {_ : Decidable p} (h : ¬ p) : AV.bool false = .bool (decide p) := by rw [decide_eq_false h]
theorem po_sent_pure {a b : List Po.S} (hl : a.length = b.length) (h : ∀ j, j < a.length → a[j]? = b[j]?) : a = b := List.ext_getElem? fun j => by
  by_cases hj : j < a.length
  · exact h j hj
  · rw [List.getElem?_eq_none (by omega), List.getElem?_eq_none (by omega)]
theorem sent27_c (F : Heap) (v w : Value) (a b : List Po.S) (hv : RowF F 5 (fun x vs => vs = x.vs) v a) (hw : RowF F 5 (fun x vs => vs = x.vs) w b) (ha : a.length ≤ 9223372036854775807) (hb : b.length ≤ 9223372036854775807) :
    NCall Tryz.prog 12 [.hs v a.length, .hs w b.length] [hpB F] fun r m => r = .bool (decide (a = b)) ∧ m = [hpB F] := by
  have hok := hv.ok
  have hokw := hw.ok
  refine ncall_of Tryz.func12 rfl (by decide) ?_
  by_cases hl : a.length = b.length
  rotate_left
  · repeat' first|(refine sxZ ?_;try clear hK K)|refine sxW ?_ ?_<;>intro _|(intro K hK _;(conv=>whnf))
    exact ⟨po_boolF (fun e => hl (by rw [e])), rfl⟩
  repeat' first|(refine sxZ ?_;try clear hK K)|refine sxW ?_ ?_<;>intro _|(intro K hK _;(conv=>whnf))
  refine st_auto (α := Nat) (fun k => k ≤ a.length ∧ ∀ j, j < k → a[j]? = b[j]?) (fun k => [.keep, .keep, .keep, .keep, .drop, .set (.int .i64 k), .keep, .keep, .keep, .keep, .keep, .drop, .drop, .drop, .drop, .drop, .drop, .drop, .drop, .drop, .drop, .drop, .drop, .drop, .drop, .drop]) (fun _ => []) (fun k => a.length - k) 0 ⟨Nat.zero_le _, fun j hj => absurd hj (Nat.not_lt_zero _)⟩ ?_ (MemFits.eq rfl) ?_
  · exact fitsGo
  (intro k ⟨hk, hgone⟩; intro K hK; (conv=>whnf); refine hK _ _ ?_; clear hK K)
  by_cases hlt : k < a.length
  · have hlt2 : k < b.length := by omega
    obtain ⟨g0, g1, g2, g3, g4⟩ := RowF.get5 (f0 := fun s : Po.S => .int .i64 s.port) (f1 := fun s => .int .i64 s.p0) (f2 := fun s => .int .i64 s.p1) (f3 := fun s => .int .i64 s.p2) (f4 := fun s => .int .i64 s.p3) hv hlt
    obtain ⟨e0, e1, e2, e3, e4⟩ := RowF.get5 (f0 := fun s : Po.S => .int .i64 s.port) (f1 := fun s => .int .i64 s.p0) (f2 := fun s => .int .i64 s.p1) (f3 := fun s => .int .i64 s.p2) (f4 := fun s => .int .i64 s.p3) hw hlt2
    have hx : a[k]? = some a[k] := List.getElem?_eq_getElem hlt
    have hy : b[k]? = some b[k] := List.getElem?_eq_getElem hlt2
    generalize a[k] = x at *
    generalize b[k] = y at *
    by_cases hxy : x = y
    · subst hxy
      obtain ⟨xp, xa, xb, xc, xd⟩ := x
      dsimp only at *
      repeat' first|((first|intro A B hA hB|intro K hK|skip);first|((with_reducible refine NIf.yes ?s ?_);(case s=>simp ;done);(conv=>whnf))|((with_reducible refine NIf.no ?s ?_);(case s=>simp ;done);(conv=>whnf)))|(refine sxZK [] ?_;(try clear hK K);try clear hA hB A B)|refine sxW ?_ ?_<;>intro _|refine sxVK ?_ ?_|(intro K hK _;(conv=>whnf))
      refine st_round (k + 1) ⟨hlt, fun j hj => ?_⟩ (by omega) ?_ (MemFits.eq rfl)
      · by_cases e : j = k
        · subst e
          rw [hx, hy]
        · exact hgone j (by omega)
      · exact fitsGo
    · obtain ⟨xp, xa, xb, xc, xd⟩ := x
      obtain ⟨yp, ya, yb, yc, yd⟩ := y
      have hnb : (decide (xp = yp) && (decide (xa = ya) && (decide (xb = yb) && (decide (xc = yc) && (decide (xd = yd) && true))))) = false := by
        refine Bool.eq_false_iff.2 fun h => hxy ?_
        simp only [Bool.and_eq_true, decide_eq_true_eq, and_true] at h
        obtain ⟨rfl, rfl, rfl, rfl, rfl⟩ := h
        rfl
      dsimp only at *
      repeat' first|((first|intro A B hA hB|intro K hK|skip);first|((with_reducible refine NIf.yes ?s ?_);(case s=>(rw [hnb]; rfl));(conv=>whnf))|((with_reducible refine NIf.no ?s ?_);(case s=>(rw [hnb]; rfl));(conv=>whnf)))|(refine sxZK [] ?_;(try clear hK K);try clear hA hB A B)|refine sxW ?_ ?_<;>intro _|refine sxVK ?_ ?_|(intro K hK _;(conv=>whnf))
      exact ⟨po_boolF (fun e => hxy (by subst e; rw [hx] at hy; injection hy)), rfl⟩
  · repeat' first|(refine sxZ ?_;try clear hK K)|refine sxW ?_ ?_<;>intro _|(intro K hK _;(conv=>whnf))
    exact ⟨po_boolT (po_sent_pure hl fun j hj => hgone j (by omega)), rfl⟩
end Go.Proofs.YtngodakgbldlpaaGreatDoor


