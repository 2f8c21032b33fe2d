/-
  Policies at a switch: no greater, no deeper, no wider, no more numbers. Plain; Conditions: the numbers with which a field is asked, rising: by the program, by the document; What is read alone, twice; two heaps as one; Conditions: which may be; for which packets they hold; Rows that were made in one's own memory, frozen all at once.
-/
import Derived.Test.YtngodakgbldlpaaGreatDoorTJ3
import Derived.Test.YtngodakgbldlpaaGreatDoorTJ10
import Derived.Test.YtngodakgbldlpaaGreatDoorTSxC
import Derived.Test.YtngodakgbldlpaaGreatDoorTPd7
namespace Go.Proofs.YtngodakgbldlpaaGreatDoor
open Go.Sx
set_option maxRecDepth 20000
set_option linter.unusedVariables false
namespace Pd
end Pd
namespace Po
theorem wideI_ge : ∀ (l : List T) (n : Nat), n ≤ wideI n l ∧ ∀ x ∈ l, wide x ≤ wideI n l
  | [], n => ⟨Nat.le_refl _, fun x hx => by cases hx⟩
  | y :: l, n => by
    obtain ⟨h1, h2⟩ := wideI_ge l (max n (wide y))
    rw [wideI]
    refine ⟨by omega, fun x hx => ?_⟩
    rcases List.mem_cons.1 hx with rfl | hx
    · omega
    · exact h2 x hx
theorem wide_mk (k : Int) (p : Pd.T) (f v : Int) (l : List T) : wide (.mk k p f v l) = if k = 3 then wideS 1 l else if k = 4 then wideU 0 l else if k = 5 then wideI 0 l else 1 := by rw [wide]
end Po
end Go.Proofs.YtngodakgbldlpaaGreatDoor
namespace Go.Proofs.YtngodakgbldlpaaGreatDoor
open Go.Sx
set_option maxRecDepth 20000
set_option linter.unusedSimpArgs false
set_option linter.unusedVariables false
set_option maxHeartbeats 4000000
set_option linter.unusedVariables false
end Go.Proofs.YtngodakgbldlpaaGreatDoor
namespace Go.Sx
set_option linter.unusedVariables false
theorem foot_hp_le {F G : Heap} (h : F.le G) : ∀ b, (hpB F).foot b → (hpB G).foot b := by
  rintro b (⟨a, u, hu, e⟩ | ⟨o, ho⟩)
  · exact .inl ⟨a, u, h.c a u hu, e⟩
  · exact .inr ⟨o, h.o b o ho⟩
theorem sep_hp (F G : Heap) : Sep (hpB F) (hpB G) := fun h => by rcases h with h | h <;> cases h
/-- The heap as it was, and as it is. -/
theorem MemFits.dup {F G : Heap} (h : F.le G) (m : List Blk) : MemFits (hpB G :: m) (hpB F :: hpB G :: m) := fun w hm => by
  have h1 := hm.holds (hpB G) (by simp)
  have hs := hm.sep
  rw [List.pairwise_cons] at hs
  refine ⟨⟨fun k hk => ?_, ?_⟩, fun b ⟨k, hk, hw, hb⟩ => ?_, fun b ⟨k, hk, hb⟩ => ?_⟩
  · rcases List.mem_cons.1 hk with rfl | hk
    · exact ⟨rfl, fun a u hu => h1.2.1 a u (h.c a u hu), fun b o ho => h1.2.2 b o (h.o b o ho)⟩
    · exact hm.holds k hk
  · rw [List.pairwise_cons]
    refine ⟨fun y hy => ?_, hm.sep⟩
    rcases List.mem_cons.1 hy with rfl | hy
    · exact sep_hp _ _
    · exact fun hw b hb1 hb2 => hs.1 y hy (hw.imp (fun h => by cases h) id) b (foot_hp_le h b hb1) hb2
  · rcases List.mem_cons.1 hk with rfl | hk
    · cases hw
    · exact ⟨k, hk, hw, hb⟩
  · rcases List.mem_cons.1 hk with rfl | hk
    · exact ⟨hpB G, by simp, foot_hp_le h b hb⟩
    · exact ⟨k, hk, hb⟩
end Go.Sx
namespace Go.Proofs.YtngodakgbldlpaaGreatDoor
open Go.Sx
set_option maxRecDepth 20000
set_option linter.unusedSimpArgs false
set_option linter.unusedVariables false
set_option maxHeartbeats 4000000
set_option linter.unusedVariables false
section
variable (F : Heap)
theorem refright26_c (p : Pd.T) (u : Value) (hs : Pd.size p ≤ 4611686018427387904) (hu : Pd.Row F u p.l) : NCall Tryz.prog 7 [.agg (Pd.cs p u)] [hpB F] fun r m => r = .bool (Pd.right p) ∧ m = [hpB F] := by
  refine NCall.fits (K := fun r m => r = .bool (Pd.right p) ∧ MemFits m [hpB F]) ?_ fun r m' h => ⟨r, _, rfl, h.2, h.1, rfl⟩
  have c1 := refsize26_c F _ p u (Nat.le_refl _) hs hu
  have c2 := refdeep26_c F _ p u (Nat.le_refl _) hs hu
  have c3 := fits26_c F _ p u (Nat.le_refl _) hs hu
  have hd := Pd.deep_size p
  unfold Pd.right
  generalize Pd.fits p = fb at *
  generalize Pd.size p = sz at *
  generalize Pd.deep p = dp at *
  simp only [Pd.cs] at *
  refine ncall_of Tryz.func7 rfl (by decide) ?_
  cases fb
  · repeat' first|(intro K hK;(with_reducible refine gC ?_);refine cS [0] c3 ?_)|(refine sxZ ?_;try clear hK K)|refine sxW ?_ ?_<;>intro _|(intro K hK _;(conv=>whnf))
    all_goals exact ⟨rfl, MemFits.pre 1 rfl⟩
  · repeat' first|(intro K hK;(with_reducible refine gC ?_);first|refine cS [0] c1 ?_|refine cS [0] c2 ?_|refine cS [0] c3 ?_)|(refine sxZ ?_;try clear hK K)|refine sxW ?_ ?_<;>intro _|(intro K hK _;(conv=>whnf))
    all_goals
      refine ⟨?_, MemFits.pre 1 rfl⟩
      congr 1
      first
        | (rw [show decide (sz ≤ 64) = true from decide_eq_true (by omega), show decide (dp ≤ 8) = true from decide_eq_true (by omega)]; simp; done)
        | (rw [show decide (sz ≤ 64) = false from decide_eq_false (by omega)]; simp; done)
        | (rw [show decide (sz ≤ 64) = true from decide_eq_true (by omega)]; simp; omega)
        | (simp; omega)
end
end Go.Proofs.YtngodakgbldlpaaGreatDoor
namespace Go.Sx
set_option maxRecDepth 20000
set_option linter.unusedVariables false
/-- A row of one's own: the slice, its cells, its elements' type, their cells, how many. -/
structure OwnR where
  v : Value
  cs : List AV
  t : TypeId
  sz : Nat
  n : Nat
def OwnR.blk (x : OwnR) : Blk := ⟨addrOf x.v, x.cs, .row x.v x.t x.sz x.n⟩
def addLs (F : Heap) : List OwnR → Heap
  | [] => F
  | x :: l => addLs (addF F (addrOf x.v) (denL x.cs)) l
theorem addLs.old : ∀ {l : List OwnR} {F : Heap}, F.le (addLs F l)
  | [], F => F.le_refl
  | x :: l, F => addF.old.trans (addLs.old (l := l))
theorem addLs.row {α : Type} {enc : α → List Value} {sz : Nat} : ∀ {l : List OwnR} {F : Heap} {x : OwnR} {ps : List α}, x ∈ l → SlOk x.v ps.length → denL x.cs = ps.flatMap enc → (∀ p ∈ ps, (enc p).length = sz) → RowF (addLs F l) sz (fun p us => us = enc p) x.v ps
  | y :: l, F, x, ps, hx, hok, he, hl => by
    rcases List.mem_cons.1 hx with rfl | hx
    · exact RowF.mono (addLs.old (l := l)) (fun _ _ h => h) (rowF_new hok he hl)
    · exact addLs.row (l := l) hx hok he hl
theorem MemFits.frzL {m : List Blk} : ∀ (l : List OwnR) {F : Heap}, MemFits (hpB F :: (l.map OwnR.blk ++ m)) (hpB (addLs F l) :: m)
  | [], F => MemFits.eq rfl
  | x :: l, F => (MemFits.freeze (m := l.map OwnR.blk ++ m)).trans (MemFits.frzL l)
end Go.Sx
