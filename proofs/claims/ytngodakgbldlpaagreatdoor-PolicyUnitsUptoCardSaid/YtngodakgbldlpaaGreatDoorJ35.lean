/-
  PolicyUnits, walked; Conditions as the row reads them.
-/
import Derived.Test.YtngodakgbldlpaaGreatDoorJ5
import Derived.Test.YtngodakgbldlpaaGreatDoorJ27
import Derived.Test.YtngodakgbldlpaaGreatDoorJ30
import Derived.Test.YtngodakgbldlpaaGreatDoorJ34
import Derived.Test.YtngodakgbldlpaaGreatDoorJ7
import Derived.Test.YtngodakgbldlpaaGreatDoorRows
import Derived.ChangeArms
namespace Go.Proofs.YtngodakgbldlpaaGreatDoor
open Go.Sx
set_option maxRecDepth 20000
set_option linter.unusedSimpArgs false
set_option linter.unusedVariables false
set_option maxHeartbeats 8000000
set_option linter.unusedVariables false
namespace Po
def units (x : T) : List T := [seqT [filT truP, x], seqT [x, filT truP], uniT [filT falP, x], seqT [filT falP, x], seqT [x, filT falP]]
theorem units_law (sw : Int) (x : T) (s : S) (i : Nat) (t : T) (h : (units x)[i]? = some t) : runs sw t s = if i ≥ 3 then [] else runs sw x s := by
  match i, h with
  | 0, h => injection h with h; rw [← h, id_ahead]; rfl
  | 1, h => injection h with h; rw [← h, id_behind]; rfl
  | 2, h => injection h with h; rw [← h, drop_beside]; rfl
  | 3, h => injection h with h; rw [← h, drop_ahead]; rfl
  | 4, h => injection h with h; rw [← h, drop_behind]; rfl
end Po
/-- The rows that the law makes. -/
def unitLits (k pk pf pv a v : Int) (pl : List Pd.T) (l : List Po.T) (a1 u1 : Value) (b1 b2 b3 b4 b5 b6 : Nat) : List OwnR :=
  [⟨.slice (some ⟨b1, 0, none⟩) 2 2, [.int .i64 1, .int .i64 1, .int .i64 0, .int .i64 0, .raw (.slice none 0 0), .int .i64 0, .int .i64 0, .raw (.slice none 0 0), .int .i64 k, .int .i64 pk, .int .i64 pf, .int .i64 pv, .hs a1 pl.length, .int .i64 a, .int .i64 v, .hs u1 l.length], 38, 8, 2⟩, ⟨.slice (some ⟨b2, 0, none⟩) 2 2, [.int .i64 k, .int .i64 pk, .int .i64 pf, .int .i64 pv, .hs a1 pl.length, .int .i64 a, .int .i64 v, .hs u1 l.length, .int .i64 1, .int .i64 1, .int .i64 0, .int .i64 0, .raw (.slice none 0 0), .int .i64 0, .int .i64 0, .raw (.slice none 0 0)], 38, 8, 2⟩, ⟨.slice (some ⟨b3, 0, none⟩) 2 2, [.int .i64 1, .int .i64 2, .int .i64 0, .int .i64 0, .raw (.slice none 0 0), .int .i64 0, .int .i64 0, .raw (.slice none 0 0), .int .i64 k, .int .i64 pk, .int .i64 pf, .int .i64 pv, .hs a1 pl.length, .int .i64 a, .int .i64 v, .hs u1 l.length], 38, 8, 2⟩, ⟨.slice (some ⟨b4, 0, none⟩) 2 2, [.int .i64 1, .int .i64 2, .int .i64 0, .int .i64 0, .raw (.slice none 0 0), .int .i64 0, .int .i64 0, .raw (.slice none 0 0), .int .i64 k, .int .i64 pk, .int .i64 pf, .int .i64 pv, .hs a1 pl.length, .int .i64 a, .int .i64 v, .hs u1 l.length], 38, 8, 2⟩, ⟨.slice (some ⟨b5, 0, none⟩) 2 2, [.int .i64 k, .int .i64 pk, .int .i64 pf, .int .i64 pv, .hs a1 pl.length, .int .i64 a, .int .i64 v, .hs u1 l.length, .int .i64 1, .int .i64 2, .int .i64 0, .int .i64 0, .raw (.slice none 0 0), .int .i64 0, .int .i64 0, .raw (.slice none 0 0)], 38, 8, 2⟩, ⟨.slice (some ⟨b6, 0, none⟩) 5 5, [.int .i64 3, .int .i64 0, .int .i64 0, .int .i64 0, .raw (.slice none 0 0), .int .i64 0, .int .i64 0, .sl 6 (.slice (some ⟨b1, 0, none⟩) 2 2) 2, .int .i64 3, .int .i64 0, .int .i64 0, .int .i64 0, .raw (.slice none 0 0), .int .i64 0, .int .i64 0, .sl 7 (.slice (some ⟨b2, 0, none⟩) 2 2) 2, .int .i64 4, .int .i64 0, .int .i64 0, .int .i64 0, .raw (.slice none 0 0), .int .i64 0, .int .i64 0, .sl 8 (.slice (some ⟨b3, 0, none⟩) 2 2) 2, .int .i64 3, .int .i64 0, .int .i64 0, .int .i64 0, .raw (.slice none 0 0), .int .i64 0, .int .i64 0, .sl 9 (.slice (some ⟨b4, 0, none⟩) 2 2) 2, .int .i64 3, .int .i64 0, .int .i64 0, .int .i64 0, .raw (.slice none 0 0), .int .i64 0, .int .i64 0, .sl 10 (.slice (some ⟨b5, 0, none⟩) 2 2) 2], 38, 8, 5⟩]
theorem unit_rows (F : Heap) (k pk pf pv a v : Int) (pl : List Pd.T) (l : List Po.T) (a1 u1 : Value) (b1 b2 b3 b4 b5 b6 : Nat) (hx : Po.At F (.mk k (.mk pk pf pv pl) a v l) a1 u1) :
    Po.Row (addLs F (unitLits k pk pf pv a v pl l a1 u1 b1 b2 b3 b4 b5 b6)) (.slice (some ⟨b6, 0, none⟩) 5 5) (Po.units (.mk k (.mk pk pf pv pl) a v l)) := by
  have hok : ∀ b : Nat, SlOk (.slice (some ⟨b, 0, none⟩) 2 2) 2 := fun b => ⟨_, _, rfl, Nat.le_refl _, fun h => by cases h⟩
  have hok5 : SlOk (.slice (some ⟨b6, 0, none⟩) 5 5) 5 := ⟨_, _, rfl, Nat.le_refl _, fun h => by cases h⟩
  have hA := Po.At.mono (addLs.old (l := unitLits k pk pf pv a v pl l a1 u1 b1 b2 b3 b4 b5 b6)) hx
  have hN : ∀ t : Po.T, t.p.l = [] → t.l = [] → Po.At (addLs F (unitLits k pk pf pv a v pl l a1 u1 b1 b2 b3 b4 b5 b6)) t (.slice none 0 0) (.slice none 0 0) := fun t h1 h2 => ⟨by rw [h1]; exact RowF.nil, by rw [h2]; exact RowF.nil⟩
  have r0 := addLs.row (enc := Po.psV) (sz := 8) (F := F) (l := unitLits k pk pf pv a v pl l a1 u1 b1 b2 b3 b4 b5 b6) (x := ⟨.slice (some ⟨b1, 0, none⟩) 2 2, [.int .i64 1, .int .i64 1, .int .i64 0, .int .i64 0, .raw (.slice none 0 0), .int .i64 0, .int .i64 0, .raw (.slice none 0 0), .int .i64 k, .int .i64 pk, .int .i64 pf, .int .i64 pv, .hs a1 pl.length, .int .i64 a, .int .i64 v, .hs u1 l.length], 38, 8, 2⟩) (ps := [⟨Po.filT Po.truP, .slice none 0 0, .slice none 0 0⟩, ⟨(.mk k (.mk pk pf pv pl) a v l), a1, u1⟩]) (List.mem_cons_self ..) (hok b1) rfl (fun _ _ => rfl)
  have p0 := Po.row_of r0 fun y hy => by
    rcases List.mem_cons.1 hy with rfl | hy
    · first | exact hA | exact hN _ rfl rfl
    · rw [List.mem_singleton.1 hy]; first | exact hA | exact hN _ rfl rfl
  have r1 := addLs.row (enc := Po.psV) (sz := 8) (F := F) (l := unitLits k pk pf pv a v pl l a1 u1 b1 b2 b3 b4 b5 b6) (x := ⟨.slice (some ⟨b2, 0, none⟩) 2 2, [.int .i64 k, .int .i64 pk, .int .i64 pf, .int .i64 pv, .hs a1 pl.length, .int .i64 a, .int .i64 v, .hs u1 l.length, .int .i64 1, .int .i64 1, .int .i64 0, .int .i64 0, .raw (.slice none 0 0), .int .i64 0, .int .i64 0, .raw (.slice none 0 0)], 38, 8, 2⟩) (ps := [⟨(.mk k (.mk pk pf pv pl) a v l), a1, u1⟩, ⟨Po.filT Po.truP, .slice none 0 0, .slice none 0 0⟩]) (List.mem_cons_of_mem _ (List.mem_cons_self ..)) (hok b2) rfl (fun _ _ => rfl)
  have p1 := Po.row_of r1 fun y hy => by
    rcases List.mem_cons.1 hy with rfl | hy
    · first | exact hA | exact hN _ rfl rfl
    · rw [List.mem_singleton.1 hy]; first | exact hA | exact hN _ rfl rfl
  have r2 := addLs.row (enc := Po.psV) (sz := 8) (F := F) (l := unitLits k pk pf pv a v pl l a1 u1 b1 b2 b3 b4 b5 b6) (x := ⟨.slice (some ⟨b3, 0, none⟩) 2 2, [.int .i64 1, .int .i64 2, .int .i64 0, .int .i64 0, .raw (.slice none 0 0), .int .i64 0, .int .i64 0, .raw (.slice none 0 0), .int .i64 k, .int .i64 pk, .int .i64 pf, .int .i64 pv, .hs a1 pl.length, .int .i64 a, .int .i64 v, .hs u1 l.length], 38, 8, 2⟩) (ps := [⟨Po.filT Po.falP, .slice none 0 0, .slice none 0 0⟩, ⟨(.mk k (.mk pk pf pv pl) a v l), a1, u1⟩]) (List.mem_cons_of_mem _ (List.mem_cons_of_mem _ (List.mem_cons_self ..))) (hok b3) rfl (fun _ _ => rfl)
  have p2 := Po.row_of r2 fun y hy => by
    rcases List.mem_cons.1 hy with rfl | hy
    · first | exact hA | exact hN _ rfl rfl
    · rw [List.mem_singleton.1 hy]; first | exact hA | exact hN _ rfl rfl
  have r3 := addLs.row (enc := Po.psV) (sz := 8) (F := F) (l := unitLits k pk pf pv a v pl l a1 u1 b1 b2 b3 b4 b5 b6) (x := ⟨.slice (some ⟨b4, 0, none⟩) 2 2, [.int .i64 1, .int .i64 2, .int .i64 0, .int .i64 0, .raw (.slice none 0 0), .int .i64 0, .int .i64 0, .raw (.slice none 0 0), .int .i64 k, .int .i64 pk, .int .i64 pf, .int .i64 pv, .hs a1 pl.length, .int .i64 a, .int .i64 v, .hs u1 l.length], 38, 8, 2⟩) (ps := [⟨Po.filT Po.falP, .slice none 0 0, .slice none 0 0⟩, ⟨(.mk k (.mk pk pf pv pl) a v l), a1, u1⟩]) (List.mem_cons_of_mem _ (List.mem_cons_of_mem _ (List.mem_cons_of_mem _ (List.mem_cons_self ..)))) (hok b4) rfl (fun _ _ => rfl)
  have p3 := Po.row_of r3 fun y hy => by
    rcases List.mem_cons.1 hy with rfl | hy
    · first | exact hA | exact hN _ rfl rfl
    · rw [List.mem_singleton.1 hy]; first | exact hA | exact hN _ rfl rfl
  have r4 := addLs.row (enc := Po.psV) (sz := 8) (F := F) (l := unitLits k pk pf pv a v pl l a1 u1 b1 b2 b3 b4 b5 b6) (x := ⟨.slice (some ⟨b5, 0, none⟩) 2 2, [.int .i64 k, .int .i64 pk, .int .i64 pf, .int .i64 pv, .hs a1 pl.length, .int .i64 a, .int .i64 v, .hs u1 l.length, .int .i64 1, .int .i64 2, .int .i64 0, .int .i64 0, .raw (.slice none 0 0), .int .i64 0, .int .i64 0, .raw (.slice none 0 0)], 38, 8, 2⟩) (ps := [⟨(.mk k (.mk pk pf pv pl) a v l), a1, u1⟩, ⟨Po.filT Po.falP, .slice none 0 0, .slice none 0 0⟩]) (List.mem_cons_of_mem _ (List.mem_cons_of_mem _ (List.mem_cons_of_mem _ (List.mem_cons_of_mem _ (List.mem_cons_self ..))))) (hok b5) rfl (fun _ _ => rfl)
  have p4 := Po.row_of r4 fun y hy => by
    rcases List.mem_cons.1 hy with rfl | hy
    · first | exact hA | exact hN _ rfl rfl
    · rw [List.mem_singleton.1 hy]; first | exact hA | exact hN _ rfl rfl
  have r5 := addLs.row (enc := Po.psV) (sz := 8) (F := F) (l := unitLits k pk pf pv a v pl l a1 u1 b1 b2 b3 b4 b5 b6) (x := ⟨.slice (some ⟨b6, 0, none⟩) 5 5, [.int .i64 3, .int .i64 0, .int .i64 0, .int .i64 0, .raw (.slice none 0 0), .int .i64 0, .int .i64 0, .sl 6 (.slice (some ⟨b1, 0, none⟩) 2 2) 2, .int .i64 3, .int .i64 0, .int .i64 0, .int .i64 0, .raw (.slice none 0 0), .int .i64 0, .int .i64 0, .sl 7 (.slice (some ⟨b2, 0, none⟩) 2 2) 2, .int .i64 4, .int .i64 0, .int .i64 0, .int .i64 0, .raw (.slice none 0 0), .int .i64 0, .int .i64 0, .sl 8 (.slice (some ⟨b3, 0, none⟩) 2 2) 2, .int .i64 3, .int .i64 0, .int .i64 0, .int .i64 0, .raw (.slice none 0 0), .int .i64 0, .int .i64 0, .sl 9 (.slice (some ⟨b4, 0, none⟩) 2 2) 2, .int .i64 3, .int .i64 0, .int .i64 0, .int .i64 0, .raw (.slice none 0 0), .int .i64 0, .int .i64 0, .sl 10 (.slice (some ⟨b5, 0, none⟩) 2 2) 2], 38, 8, 5⟩) (ps := [⟨Po.seqT [Po.filT Po.truP, (.mk k (.mk pk pf pv pl) a v l)], .slice none 0 0, .slice (some ⟨b1, 0, none⟩) 2 2⟩, ⟨Po.seqT [(.mk k (.mk pk pf pv pl) a v l), Po.filT Po.truP], .slice none 0 0, .slice (some ⟨b2, 0, none⟩) 2 2⟩, ⟨Po.uniT [Po.filT Po.falP, (.mk k (.mk pk pf pv pl) a v l)], .slice none 0 0, .slice (some ⟨b3, 0, none⟩) 2 2⟩, ⟨Po.seqT [Po.filT Po.falP, (.mk k (.mk pk pf pv pl) a v l)], .slice none 0 0, .slice (some ⟨b4, 0, none⟩) 2 2⟩, ⟨Po.seqT [(.mk k (.mk pk pf pv pl) a v l), Po.filT Po.falP], .slice none 0 0, .slice (some ⟨b5, 0, none⟩) 2 2⟩]) (List.mem_cons_of_mem _ (List.mem_cons_of_mem _ (List.mem_cons_of_mem _ (List.mem_cons_of_mem _ (List.mem_cons_of_mem _ (List.mem_cons_self ..)))))) hok5 rfl (fun _ _ => rfl)
  exact Po.row_of r5 fun y hy => by
    rcases List.mem_cons.1 hy with rfl | hy
    · exact ⟨RowF.nil, p0⟩
    rcases List.mem_cons.1 hy with rfl | hy
    · exact ⟨RowF.nil, p1⟩
    rcases List.mem_cons.1 hy with rfl | hy
    · exact ⟨RowF.nil, p2⟩
    rcases List.mem_cons.1 hy with rfl | hy
    · exact ⟨RowF.nil, p3⟩
    · rw [List.mem_singleton.1 hy]; exact ⟨RowF.nil, p4⟩
theorem unit_mem (F : Heap) (k pk pf pv a v : Int) (pl : List Pd.T) (l : List Po.T) (a1 u1 : Value) (b1 b2 b3 b4 b5 b6 : Nat) (B1 B2 B3 B4 B5 : Blk) :
    MemFits (hpB F :: B1 :: B2 :: B3 :: B4 :: B5 :: (unitLits k pk pf pv a v pl l a1 u1 b1 b2 b3 b4 b5 b6).map OwnR.blk) [hpB (addLs F (unitLits k pk pf pv a v pl l a1 u1 b1 b2 b3 b4 b5 b6)), B1, B2, B3, B4, B5, hpB (addLs F (unitLits k pk pf pv a v pl l a1 u1 b1 b2 b3 b4 b5 b6)), hpB noHeap, hpB noHeap, hpB noHeap, hpB noHeap, hpB noHeap] :=
  ((MemFits.pick (m' := hpB F :: ((unitLits k pk pf pv a v pl l a1 u1 b1 b2 b3 b4 b5 b6).map OwnR.blk ++ [B1, B2, B3, B4, B5])) [0, 6, 7, 8, 9, 10, 11, 1, 2, 3, 4, 5] (by decide) rfl).trans ((MemFits.frzL _).trans (MemFits.dup (Heap.le_refl _) _))).trans
    (((((MemFits.noHeap _).trans (MemFits.noHeap _)).trans (MemFits.noHeap _)).trans ((MemFits.noHeap _).trans (MemFits.noHeap _))).trans (MemFits.pick [5, 7, 8, 9, 10, 11, 6, 0, 1, 2, 3, 4] (by decide) rfl))
theorem Po.units_tot {x t : Po.T} {i : Nat} (h : (Po.units x)[i]? = some t) : Po.tot t ≤ Po.tot x + 10 := by
  have h := List.mem_of_getElem? h
  simp only [Po.units, List.mem_cons, List.not_mem_nil, or_false] at h
  rcases h with rfl | rfl | rfl | rfl | rfl <;> simp [Po.seqT, Po.uniT, Po.filT, Po.truP, Po.falP, Po.noneP, Po.tot, Po.totL, Pd.size, Pd.sizeL] <;> omega
theorem two_theirs (F : Heap) (f v w : Int) (b : Nat) :
    NCall Tryz.prog 11 [.agg [.int .i64 3, .int .i64 0, .int .i64 0, .int .i64 0, .raw (.slice none 0 0), .int .i64 0, .int .i64 0, .sl 1 (.slice (some ⟨b, 0, none⟩) 2 2) 2]] [hpB F, ⟨⟨b, 0, none⟩, [.int .i64 2, .int .i64 0, .int .i64 0, .int .i64 0, .raw (.slice none 0 0), .int .i64 f, .int .i64 v, .raw (.slice none 0 0), .int .i64 2, .int .i64 0, .int .i64 0, .int .i64 0, .raw (.slice none 0 0), .int .i64 f, .int .i64 w, .raw (.slice none 0 0)], .row (.slice (some ⟨b, 0, none⟩) 2 2) 38 8 2⟩]
      fun r m => ∃ G a u, F.le G ∧ Po.At G (Po.seqT [Po.setT f v, Po.setT f w]) (.slice none 0 0) (.slice (some ⟨b, 0, none⟩) 2 2) ∧ Po.At G (Po.seqT [Po.setT f v, Po.setT f w]) a u ∧ r = .agg (Po.cs (Po.seqT [Po.setT f v, Po.setT f w]) a u) ∧ m = [hpB G, hpB noHeap] := by
  have hok : SlOk (.slice (some ⟨b, 0, none⟩) 2 2) 2 := ⟨_, _, rfl, Nat.le_refl _, fun h => by cases h⟩
  generalize hw : Value.slice (some ⟨b, 0, none⟩) 2 2 = z at *
  have e8 : denL ([.int .i64 2, .int .i64 0, .int .i64 0, .int .i64 0, .raw (.slice none 0 0), .int .i64 f, .int .i64 v, .raw (.slice none 0 0), .int .i64 2, .int .i64 0, .int .i64 0, .int .i64 0, .raw (.slice none 0 0), .int .i64 f, .int .i64 w, .raw (.slice none 0 0)] : List AV) = [(⟨Po.setT f v, .slice none 0 0, .slice none 0 0⟩ : Po.L), ⟨Po.setT f w, .slice none 0 0, .slice none 0 0⟩].flatMap Po.psV := rfl
  have r8 := rowF_new (F := F) (sz := 8) (enc := Po.psV) hok e8 (fun x _ => rfl)
  have p8 := Po.row_of r8 fun p hp => by
    rcases List.mem_cons.1 hp with rfl | hp
    · exact ⟨RowF.nil, RowF.nil⟩
    · rw [List.mem_singleton.1 hp]; exact ⟨RowF.nil, RowF.nil⟩
  have hat : Po.At (addF F (addrOf z) (denL ([.int .i64 2, .int .i64 0, .int .i64 0, .int .i64 0, .raw (.slice none 0 0), .int .i64 f, .int .i64 v, .raw (.slice none 0 0), .int .i64 2, .int .i64 0, .int .i64 0, .int .i64 0, .raw (.slice none 0 0), .int .i64 f, .int .i64 w, .raw (.slice none 0 0)] : List AV))) (Po.seqT [Po.setT f v, Po.setT f w]) (.slice none 0 0) z := ⟨RowF.nil, p8⟩
  have ht : Po.tot (Po.seqT [Po.setT f v, Po.setT f w]) ≤ 1466015503701 := by simp [Po.seqT, Po.setT, Po.noneP, Po.tot, Po.totL, Pd.size, Pd.sizeL]
  have c := theirs27_c _ _ (Po.seqT [Po.setT f v, Po.setT f w]) (.slice none 0 0) z (Nat.le_refl _) ht hat
  refine (NCall.pre (args := [.agg [.int .i64 3, .int .i64 0, .int .i64 0, .int .i64 0, .raw (.slice none 0 0), .int .i64 0, .int .i64 0, .sl 1 z 2]]) c rfl (MemFits.freeze (m := []))).fits fun r m' hr => ?_
  obtain ⟨G, a, u, h1, h2, rfl, rfl⟩ := hr
  exact ⟨_, _, rfl, (MemFits.noHeap _).trans (MemFits.pick [1, 0] (by decide) rfl), G, a, u, addF.old.trans h1, Po.At.mono h1 hat, h2, rfl, rfl⟩
theorem punits27_c (F : Heap) (hT : TabF F) (x : Po.T) (pu u : Value) (f v0 w0 sw : Int) (s : Po.S) (hs : Po.tot x ≤ 1000000000) (hx : Po.At F x pu u) :
    NCall Tryz.prog 4 [.agg (Po.cs x pu u), .int .i64 f, .int .i64 v0, .int .i64 w0, .int .i64 sw, .int .i64 s.port, .agg [.int .i64 s.p0, .int .i64 s.p1, .int .i64 s.p2, .int .i64 s.p3]] [hpB F] fun r _ => r = .bool true := by
  have hok := hx.l.ok
  have hpok := hx.p.ok
  have cw := fun G (h : F.le G) => awake27_c G (hT.mono h)
  have cR := refright27_c F x pu u (by omega) hx
  by_cases hr : Po.right x = true
  rotate_left
  · have hr : Po.right x = false := by simpa using hr
    rw [hr] at cR
    have cw := cw F F.le_refl
    clear hx hr
    obtain ⟨k, ⟨pk, pf, pv, pl⟩, a, v, l⟩ := x
    obtain ⟨port, p0, p1, p2, p3⟩ := s
    simp only [po_cs, Po.T.l, Po.T.p, Pd.T.k, Pd.T.f, Pd.T.v, Pd.T.l] at *
    refine ncall_of Tryz.func4 rfl (by decide) ?_
    (repeat' (first|(with_reducible first|(refine hK _ _ ?_;clear hK K)|(refine hA ?_;clear hA hB A B)|(refine hK _ ?_;clear hK K))|((with_reducible refine gO ?_);(first|((with_reducible refine z25 ?_);intro K hK;(conv=>whnf))|(with_reducible refine z0 ?_)))|((first|((with_reducible refine gI ?_);(first|with_reducible refine NIf.not_ ?_|((with_reducible refine NIf.no ?s ?_);case s=>rfl)))|((with_reducible refine gH ?_);((with_reducible refine NH.mk ?s ?_);case s=>(and_intros<;>with_reducible rfl)))|((with_reducible refine gC ?_);(first|((with_reducible refine NCall.isF 6 ?_);refine NCall.subE [0] (cR) rfl (by decide) rfl rfl ?_)|((with_reducible refine NCall.isF 8 ?_);refine NCall.subE [0] (cw) rfl (by decide) rfl rfl ?_))))<;>(conv=>whnf))|((with_reducible refine gX ?_);(first|(with_reducible first|refine z3 ?_|refine z4 ?_|refine z8 ?_)|((with_reducible refine z29 ?_);intro A B hA hB;(conv=>whnf))))|(with_reducible first|refine z1 ?_|refine z2 ?_|refine z12 ?_)|((with_reducible refine gR ?_);((refine z31 rfl ?_);intro K hK;(conv=>whnf)))|((with_reducible refine gF ?_);((refine z33 rfl ?_);intro K hK;(conv=>whnf)))|((intro _;skip)<;>(conv=>whnf))))
    all_goals rfl
  rw [hr] at cR
  have hrl := Po.runs_64 sw x hr s
  have hfit := Po.right_fits' hr
  have cm := mine27_c _ F x pu u (Nat.le_refl _) (by omega) hx
  have cU := fun G a b (h : Po.At G x a b) => Run27_c G x a b sw s (by omega) hfit (by omega) h
  have hlaw := Po.units_law sw x s
  generalize Po.runs sw x s = R at *
  clear hr hfit hx
  obtain ⟨k, ⟨pk, pf, pv, pl⟩, a, v, l⟩ := x
  obtain ⟨port, p0, p1, p2, p3⟩ := s
  simp only [po_cs, Po.Lays, Po.T.l, Po.T.p, Pd.T.k, Pd.T.f, Pd.T.v, Pd.T.l] at *
  refine ncall_of Tryz.func4 rfl (by decide) ?_
  (repeat' (first|(with_reducible first|(refine hK _ _ ?_;clear hK K)|(refine hB ?_;clear hA hB A B)|(refine hK _ ?_;clear hK K))|((with_reducible refine gO ?_);(first|((with_reducible refine z25 ?_);intro K hK;(conv=>whnf))|(with_reducible refine z0 ?_)))|((first|((with_reducible refine gI ?_);(first|with_reducible refine NIf.not_ ?_|((with_reducible refine NIf.yes ?s ?_);case s=>rfl)))|((with_reducible refine gH ?_);((with_reducible refine NH.mk ?s ?_);case s=>(and_intros<;>first|with_reducible rfl|((with_reducible refine gOnes ?_);rfl)|((with_reducible refine gLen ?_);rfl)|omega)))|((with_reducible refine gC ?_);(first|((with_reducible refine NCall.isF 6 ?_);refine NCall.subE [0] (cR) rfl (by decide) rfl rfl ?_)|((with_reducible refine NCall.isF 9 ?_);refine NCall.subw [0] _ _ (cm) rfl (by decide) rfl ?_; rintro _ _ ⟨F1, a1, u1, hle1, hu1, rfl, rfl⟩; refine ⟨Nat.le_of_ble_eq_true rfl, _, rfl, ?_⟩)|((with_reducible refine NCall.isF 13 ?_);refine NCall.subw [0] _ _ (cU F1 a1 u1 hu1) rfl (by decide) rfl ?_; rintro _ _ ⟨F2, v2, hle2, hv2, rfl, rfl⟩; refine ⟨Nat.le_of_ble_eq_true rfl, _, rfl, ?_⟩))))<;>(conv=>whnf))|((with_reducible refine gX ?_);(first|(with_reducible first|refine z3 ?_|refine z4 ?_|refine z5 ?_|refine z6 ?_)|((with_reducible refine z29 ?_);intro A B hA hB;(conv=>whnf))))|(with_reducible first|refine z1 ?_|refine z2 ?_)|((with_reducible refine gF ?_);((refine z33 rfl ?_);intro K hK;(conv=>whnf)))|((intro _;skip)<;>(conv=>whnf))))
  rename_i c7 c13 c15 c16 c17 b1 b2 b3 b4 b5 b6
  have hrow := unit_rows F2 k pk pf pv a v pl l a1 u1 b1 b2 b3 b4 b5 b6 (Po.At.mono hle2 hu1)
  have hmem := unit_mem F2 k pk pf pv a v pl l a1 u1 b1 b2 b3 b4 b5 b6
  have hF3 : F2.le (addLs F2 (unitLits k pk pf pv a v pl l a1 u1 b1 b2 b3 b4 b5 b6)) := addLs.old
  generalize hX : (Po.T.mk k (.mk pk pf pv pl) a v l) = X at *
  generalize addLs F2 (unitLits k pk pf pv a v pl l a1 u1 b1 b2 b3 b4 b5 b6) = F3 at *
  have hok6 : SlOk (.slice (some ⟨b6, 0, none⟩) 5 5) 5 := ⟨_, _, rfl, Nat.le_refl _, fun h => by cases h⟩
  have hokv := hv2.ok
  refine st_auto (α := Heap × Nat) (fun (G, i) => F3.le G ∧ i ≤ 5) (fun (G, i) => [.keep, .keep, .keep, .keep, .keep, .keep, .keep, .keep, .keep, .keep, .keep, .keep, .keep, .keep, .drop, .keep, .keep, .keep, .keep, .set (.hs (.slice (some ⟨b6, 0, none⟩) 5 5) 5), .set (.int .i64 i), .drop, .keep, .keep, .keep, .keep, .keep, .keep, .keep, .keep, .keep, .keep, .keep, .keep, .keep, .keep, .keep, .keep, .keep, .keep, .keep, .keep, .keep, .keep, .keep, .keep, .keep, .keep, .keep, .keep, .keep, .keep, .keep, .keep, .keep, .keep, .keep, .keep, .keep, .keep, .keep, .drop, .drop, .drop, .drop, .drop, .drop, .drop, .drop, .drop, .drop, .drop, .drop, .drop, .drop, .drop, .drop, .drop, .drop, .drop, .drop, .drop, .drop, .drop, .drop, .drop, .drop, .drop, .drop, .keep, .keep, .keep, .keep, .keep, .keep, .keep, .keep, .keep, .keep, .keep, .keep, .keep, .keep, .keep, .keep, .keep, .keep, .keep, .keep, .keep, .keep, .keep, .keep, .keep, .keep, .keep, .keep, .keep, .keep]) (fun (G, i) => [.set (hpB F3), .keep, .keep, .keep, .keep, .keep, .set (hpB G), .set (hpB noHeap), .set (hpB noHeap), .set (hpB noHeap), .set (hpB noHeap), .set (hpB noHeap)]) (fun (G, i) => 5 - i) (F3, 0) ⟨F3.le_refl, Nat.zero_le _⟩ ?_ (hmem _ _ _ _ _) ?_
  · repeat (first|exact FitsSl.nil|refine FitsSl.any ?_|refine FitsSl.cons (Fit1.slhs (by  rfl)) ?_|refine FitsSl.cons (Fit1.int (by first | rfl | omega)) ?_|refine FitsSl.cons (Fit1.bool rfl) ?_|refine FitsSl.cons (Fit1.same (by intro h; cases h) (by with_reducible rfl)) ?_)
  (intro ⟨G, i⟩ ⟨hle3, hi⟩; intro K hK; (conv=>whnf); refine hK _ _ ?_; clear hK K)
  dsimp only
  by_cases hlt : i < 5
  · have hlen : i < (Po.units X).length := hlt
    obtain ⟨t, ht⟩ : ∃ t, (Po.units X)[i]? = some t := ⟨_, List.getElem?_eq_getElem hlen⟩
    have hl := hlaw i t ht
    have htt := Po.units_tot ht
    obtain ⟨pA, pcap, A, cap, hA, c0, c1, c2, c3, c4, c5, c6, c7⟩ := hrow.get ht
    have hAo := hA.l.ok
    have hAp := hA.p.ok
    have cT := theirs27_c _ G t _ _ (Nat.le_refl _) (by omega) (Po.At.mono hle3 hA)
    have cQ := fun G' a' b' (h : Po.At G' t a' b') => refright27_c G' t a' b' (by omega) h
    have hv3 := fun G' (h : F3.le G') => Po.SRow.mono (hF3.trans h) hv2
    clear hlaw ht hrow hmem
    by_cases hrt : Po.right t = true
    · have h64 := Po.runs_64 sw t hrt ⟨port, p0, p1, p2, p3⟩
      have cN := fun G' (h : F3.le G') => Run27_c G' t _ _ sw ⟨port, p0, p1, p2, p3⟩ (by omega) (Po.right_fits' hrt) (by omega) (Po.At.mono h hA)
      rw [hl] at cN
      rw [hrt] at cQ
      clear hl h64 hrt htt hA
      obtain ⟨tk, ⟨tpk, tpf, tpv, tpl⟩, tf, tv, tl⟩ := t
      simp only [Po.cs, Po.Lays, Po.T.k, Po.T.p, Po.T.f, Po.T.v, Po.T.l, Pd.T.k, Pd.T.f, Pd.T.v, Pd.T.l] at *
      by_cases h3 : i ≥ 3
      · rw [if_pos h3] at cN
        have cS := fun G' z (h : Po.SRow G' z []) => sent27_c G' z (.slice none 0 0) [] [] h RowF.nil (by simp) (by simp)
        rw [show decide (([] : List Po.S) = []) = true by simp] at cS
        (repeat' (first|(with_reducible first|(refine hK _ _ ?_;clear hK K)|(refine hA ?_;clear hA hB A B)|(refine hB ?_;clear hA hB A B)|(refine hK _ ?_;clear hK K))|((with_reducible refine gO ?_);(first|((with_reducible refine z25 ?_);intro K hK;(conv=>whnf))|(with_reducible refine z0 ?_)))|((first|((with_reducible refine gV ?_);(((with_reducible refine NV.i64 ?s ?_);case s=>omega)))|((with_reducible refine gI ?_);(first|with_reducible refine NIf.not_ ?_|((with_reducible refine NIf.decY ?s ?_);case s=>omega)|((with_reducible refine NIf.yes ?s ?_);case s=>rfl)))|((with_reducible refine gN ?_);(with_reducible first|refine NN.cast ?_|refine NN.keep ?_))|((with_reducible refine gH ?_);((with_reducible refine NH.mk ?s ?_);case s=>(and_intros<;>first|((with_reducible refine gKept ?_);exact rfl)|omega|rfl)))|((with_reducible refine gC ?_);(first|((with_reducible refine NCall.isF 11 ?_);refine NCall.subw [6] _ _ (cT) rfl (by decide) rfl ?_; rintro _ _ ⟨G4, a4, u4, hle4, hat4, rfl, rfl⟩; refine ⟨Nat.le_of_ble_eq_true rfl, _, rfl, ?_⟩)|((with_reducible refine NCall.isF 6 ?_);refine NCall.subE [6] (cQ G4 a4 u4 hat4) rfl (by decide) rfl rfl ?_)|((with_reducible refine NCall.isF 13 ?_);refine NCall.subw [6] _ _ (cN G4 (hle3.trans hle4)) rfl (by decide) rfl ?_; rintro _ _ ⟨G5, v5, hle5, hv5, rfl, rfl⟩; refine ⟨Nat.le_of_ble_eq_true rfl, _, rfl, ?_⟩)|((with_reducible refine NCall.isF 12 ?_);refine NCall.subE [6] (cS G5 v5 hv5) rfl (by decide) rfl rfl ?_)))|(with_reducible refine NLd.of (by with_reducible assumption) ?_))<;>(conv=>whnf))|((with_reducible refine gNRK ?_);((with_reducible refine st_ordSout ?_)))|((with_reducible refine gNOK ?_);(first|(refine st_ordK1 rfl (by kernel_rfl) rfl ?_; intro K hK; (conv=>whnf))|(refine st_ordK1g rfl (by kernel_rfl) rfl ?_; intro K hK; (conv=>whnf))|(refine st_ordK0 rfl (by kernel_rfl) ?_)|(refine st_ordKA rfl rfl (by kernel_rfl) (by intro h; cases h) ?_)))|((with_reducible refine gNEK ?_);(first|(refine st_eachK ?_ ?_; (intro K hK; (conv=>whnf)))|(refine st_eachKg rfl ?_ ?_; (intro K hK; (conv=>whnf)))|exact st_eachK0))|((with_reducible refine gX ?_);(first|(refine st_orderS [6] rfl rfl (by kernel_rfl) _ rfl ?_)|(with_reducible first|refine z3 ?_|refine z4 ?_|refine z5 ?_|refine z6 ?_)|((with_reducible refine z29 ?_);intro A B hA hB;(conv=>whnf))))|(with_reducible first|refine z1 ?_|refine z2 ?_|refine z9 ?_)))
        all_goals first | (exfalso; omega) | skip
        all_goals
          refine st_round (G5, i + 1) ⟨(hle3.trans hle4).trans hle5, hlt⟩ (by show 5 - (i + 1) < 5 - i; omega) ?_ (MemFits.eq rfl)
          repeat (first|exact FitsSl.nil|refine FitsSl.any ?_|refine FitsSl.cons (Fit1.int (by first | rfl | omega)) ?_|refine FitsSl.cons (Fit1.bool rfl) ?_|refine FitsSl.cons (Fit1.same (by intro h; cases h) (by with_reducible rfl)) ?_)
      · rw [if_neg h3] at cN
        have cS := fun G' z (h : Po.SRow G' z R) (h2 : F3.le G') => sent27_c G' z v2 R R h (hv3 G' h2) (by omega) (by omega)
        rw [show decide (R = R) = true by simp] at cS
        (repeat' (first|(with_reducible first|(refine hK _ _ ?_;clear hK K)|(refine hA ?_;clear hA hB A B)|(refine hB ?_;clear hA hB A B)|(refine hK _ ?_;clear hK K))|((with_reducible refine gO ?_);(first|((with_reducible refine z25 ?_);intro K hK;(conv=>whnf))|(with_reducible refine z0 ?_)))|((first|((with_reducible refine gV ?_);(((with_reducible refine NV.i64 ?s ?_);case s=>omega)))|((with_reducible refine gI ?_);(first|with_reducible refine NIf.not_ ?_|((with_reducible refine NIf.decY ?s ?_);case s=>omega)|((with_reducible refine NIf.decN ?s ?_);case s=>omega)|((with_reducible refine NIf.yes ?s ?_);case s=>rfl)))|((with_reducible refine gN ?_);(with_reducible first|refine NN.cast ?_|refine NN.keep ?_))|((with_reducible refine gH ?_);((with_reducible refine NH.mk ?s ?_);case s=>(and_intros<;>first|((with_reducible refine gKept ?_);exact rfl)|omega|rfl)))|((with_reducible refine gC ?_);(first|((with_reducible refine NCall.isF 11 ?_);refine NCall.subw [6] _ _ (cT) rfl (by decide) rfl ?_; rintro _ _ ⟨G4, a4, u4, hle4, hat4, rfl, rfl⟩; refine ⟨Nat.le_of_ble_eq_true rfl, _, rfl, ?_⟩)|((with_reducible refine NCall.isF 6 ?_);refine NCall.subE [6] (cQ G4 a4 u4 hat4) rfl (by decide) rfl rfl ?_)|((with_reducible refine NCall.isF 13 ?_);refine NCall.subw [6] _ _ (cN G4 (hle3.trans hle4)) rfl (by decide) rfl ?_; rintro _ _ ⟨G5, v5, hle5, hv5, rfl, rfl⟩; refine ⟨Nat.le_of_ble_eq_true rfl, _, rfl, ?_⟩)|((with_reducible refine NCall.isF 12 ?_);refine NCall.subE [6] (cS G5 v5 hv5 ((hle3.trans hle4).trans hle5)) rfl (by decide) rfl rfl ?_)))|(with_reducible refine NLd.of (by with_reducible assumption) ?_))<;>(conv=>whnf))|((with_reducible refine gNRK ?_);((with_reducible refine st_ordSout ?_)))|((with_reducible refine gNOK ?_);(first|(refine st_ordK1 rfl (by kernel_rfl) rfl ?_; intro K hK; (conv=>whnf))|(refine st_ordK1g rfl (by kernel_rfl) rfl ?_; intro K hK; (conv=>whnf))|(refine st_ordK0 rfl (by kernel_rfl) ?_)|(refine st_ordKA rfl rfl (by kernel_rfl) (by intro h; cases h) ?_)))|((with_reducible refine gNEK ?_);(first|(refine st_eachK ?_ ?_; (intro K hK; (conv=>whnf)))|(refine st_eachKg rfl ?_ ?_; (intro K hK; (conv=>whnf)))|exact st_eachK0))|((with_reducible refine gX ?_);(first|(refine st_orderS [6] rfl rfl (by kernel_rfl) _ rfl ?_)|(with_reducible first|refine z3 ?_|refine z4 ?_|refine z5 ?_|refine z6 ?_)|((with_reducible refine z29 ?_);intro A B hA hB;(conv=>whnf))))|(with_reducible first|refine z1 ?_|refine z2 ?_|refine z9 ?_)))
        all_goals first | (exfalso; omega) | skip
        all_goals
          refine st_round (G5, i + 1) ⟨(hle3.trans hle4).trans hle5, hlt⟩ (by show 5 - (i + 1) < 5 - i; omega) ?_ (MemFits.eq rfl)
          repeat (first|exact FitsSl.nil|refine FitsSl.any ?_|refine FitsSl.cons (Fit1.int (by first | rfl | omega)) ?_|refine FitsSl.cons (Fit1.bool rfl) ?_|refine FitsSl.cons (Fit1.same (by intro h; cases h) (by with_reducible rfl)) ?_)
    · have hrt : Po.right t = false := by simpa using hrt
      rw [hrt] at cQ
      clear hl hrt htt hA
      obtain ⟨tk, ⟨tpk, tpf, tpv, tpl⟩, tf, tv, tl⟩ := t
      simp only [Po.cs, Po.Lays, Po.T.k, Po.T.p, Po.T.f, Po.T.v, Po.T.l, Pd.T.k, Pd.T.f, Pd.T.v, Pd.T.l] at *
      (repeat' (first|(with_reducible first|(refine hK _ _ ?_;clear hK K)|(refine hA ?_;clear hA hB A B)|(refine hB ?_;clear hA hB A B)|(refine hK _ ?_;clear hK K))|((with_reducible refine gO ?_);(first|((with_reducible refine z25 ?_);intro K hK;(conv=>whnf))|(with_reducible refine z0 ?_)))|((first|((with_reducible refine gV ?_);(((with_reducible refine NV.i64 ?s ?_);case s=>omega)))|((with_reducible refine gI ?_);(first|((with_reducible refine NIf.decY ?s ?_);case s=>omega)|((with_reducible refine NIf.no ?s ?_);case s=>rfl)|(with_reducible refine NIf.dec (fun _=>?_) (fun _=>?_))))|((with_reducible refine gN ?_);(with_reducible first|refine NN.cast ?_|refine NN.keep ?_))|((with_reducible refine gH ?_);((with_reducible refine NH.mk ?s ?_);case s=>(and_intros<;>first|((with_reducible refine gKept ?_);exact rfl)|omega)))|((with_reducible refine gC ?_);(first|((with_reducible refine NCall.isF 11 ?_);refine NCall.subw [6] _ _ (cT) rfl (by decide) rfl ?_; rintro _ _ ⟨G4, a4, u4, hle4, hat4, rfl, rfl⟩; refine ⟨Nat.le_of_ble_eq_true rfl, _, rfl, ?_⟩)|((with_reducible refine NCall.isF 6 ?_);refine NCall.subE [6] (cQ G4 a4 u4 hat4) rfl (by decide) rfl rfl ?_)))|(with_reducible refine NLd.of (by with_reducible assumption) ?_))<;>(conv=>whnf))|((with_reducible refine gNRK ?_);((with_reducible refine st_ordSout ?_)))|((with_reducible refine gNOK ?_);(first|(refine st_ordK1 rfl (by kernel_rfl) rfl ?_; intro K hK; (conv=>whnf))|(refine st_ordK1g rfl (by kernel_rfl) rfl ?_; intro K hK; (conv=>whnf))|(refine st_ordK0 rfl (by kernel_rfl) ?_)|(refine st_ordKA rfl rfl (by kernel_rfl) (by intro h; cases h) ?_)))|((with_reducible refine gNEK ?_);(first|(refine st_eachK ?_ ?_; (intro K hK; (conv=>whnf)))|(refine st_eachKg rfl ?_ ?_; (intro K hK; (conv=>whnf)))|exact st_eachK0))|((with_reducible refine gX ?_);(first|(refine st_orderS [6] rfl rfl (by kernel_rfl) _ rfl ?_)|(with_reducible first|refine z3 ?_|refine z4 ?_|refine z5 ?_|refine z6 ?_)|((with_reducible refine z29 ?_);intro A B hA hB;(conv=>whnf))))|(with_reducible first|refine z1 ?_|refine z2 ?_|refine z9 ?_)))
      all_goals first | (exfalso; omega) | skip
      all_goals
        refine st_round (G4, i + 1) ⟨hle3.trans hle4, hlt⟩ (by show 5 - (i + 1) < 5 - i; omega) ?_ (MemFits.eq rfl)
        repeat (first|exact FitsSl.nil|refine FitsSl.any ?_|refine FitsSl.cons (Fit1.int (by first | rfl | omega)) ?_|refine FitsSl.cons (Fit1.bool rfl) ?_|refine FitsSl.cons (Fit1.same (by intro h; cases h) (by with_reducible rfl)) ?_)
  · have hi5 : i = 5 := by omega
    subst hi5
    clear hrow hmem hlaw
    have cT := fun b => two_theirs G f v0 w0 b
    have ht : Po.tot (Po.seqT [Po.setT f v0, Po.setT f w0]) ≤ 1466015503701 := by simp [Po.seqT, Po.setT, Po.noneP, Po.tot, Po.totL, Pd.size, Pd.sizeL]
    have cQ := fun G' a' b' (h : Po.At G' (Po.seqT [Po.setT f v0, Po.setT f w0]) a' b') => refright27_c G' (Po.seqT [Po.setT f v0, Po.setT f w0]) a' b' (by omega) h
    have cw := fun G' (h : F3.le G') => cw G' ((hle1.trans hle2).trans (hF3.trans h))
    by_cases hrt : Po.right (Po.seqT [Po.setT f v0, Po.setT f w0]) = true
    · have h64 := Po.runs_64 sw (Po.seqT [Po.setT f v0, Po.setT f w0]) hrt ⟨port, p0, p1, p2, p3⟩
      have hlw := Po.two_law sw f v0 w0 ⟨port, p0, p1, p2, p3⟩ hrt
      have hft := Po.right_fits' hrt
      have hfs : Po.fits (Po.setT f w0) = true := (Po.fits_iff.1 hft).2 _ (by simp)
      rw [hrt] at cQ
      rw [hlw] at h64
      have cN : ∀ (G' : Heap) (b : Nat), Po.At G' (Po.seqT [Po.setT f v0, Po.setT f w0]) (.slice none 0 0) (.slice (some ⟨b, 0, none⟩) 2 2) → NCall Tryz.prog 13 [.agg [.int .i64 3, .int .i64 0, .int .i64 0, .int .i64 0, .hs (.slice none 0 0) 0, .int .i64 0, .int .i64 0, .hs (.slice (some ⟨b, 0, none⟩) 2 2) 2], .int .i64 sw, .int .i64 port, .agg [.int .i64 p0, .int .i64 p1, .int .i64 p2, .int .i64 p3]] [hpB G'] fun r m => ∃ F' v, G'.le F' ∧ Po.SRow F' v (Po.runs sw (Po.setT f w0) ⟨port, p0, p1, p2, p3⟩) ∧ r = .hs v (Po.runs sw (Po.setT f w0) ⟨port, p0, p1, p2, p3⟩).length ∧ m = [hpB F'] := fun G' b h => by
        have c := Run27_c G' (Po.seqT [Po.setT f v0, Po.setT f w0]) _ _ sw ⟨port, p0, p1, p2, p3⟩ (by omega) hft (by rw [hlw]; omega) h
        rw [hlw] at c
        exact c
      have cM : ∀ (G' : Heap), NCall Tryz.prog 13 [.agg [.int .i64 2, .int .i64 0, .int .i64 0, .int .i64 0, .hs (.slice none 0 0) 0, .int .i64 f, .int .i64 w0, .hs (.slice none 0 0) 0], .int .i64 sw, .int .i64 port, .agg [.int .i64 p0, .int .i64 p1, .int .i64 p2, .int .i64 p3]] [hpB G'] fun r m => ∃ F' v, G'.le F' ∧ Po.SRow F' v (Po.runs sw (Po.setT f w0) ⟨port, p0, p1, p2, p3⟩) ∧ r = .hs v (Po.runs sw (Po.setT f w0) ⟨port, p0, p1, p2, p3⟩).length ∧ m = [hpB F'] := fun G' => by
        exact Run27_c G' (Po.setT f w0) (.slice none 0 0) (.slice none 0 0) sw ⟨port, p0, p1, p2, p3⟩ (by simp [Po.setT, Po.noneP, Po.tot, Po.totL, Pd.size, Pd.sizeL]) hfs (by omega) ⟨RowF.nil, RowF.nil⟩
      have hm2 := fun G' G'' z (h : Heap.le G' G'') (h2 : Po.SRow G' z (Po.runs sw (Po.setT f w0) ⟨port, p0, p1, p2, p3⟩)) => Po.SRow.mono h h2
      have cS := fun G' z z' (h : Po.SRow G' z (Po.runs sw (Po.setT f w0) ⟨port, p0, p1, p2, p3⟩)) (h2 : Po.SRow G' z' (Po.runs sw (Po.setT f w0) ⟨port, p0, p1, p2, p3⟩)) => sent27_c G' z z' _ _ h h2 (by omega) (by omega)
      rw [show decide (Po.runs sw (Po.setT f w0) ⟨port, p0, p1, p2, p3⟩ = Po.runs sw (Po.setT f w0) ⟨port, p0, p1, p2, p3⟩) = true by simp] at cS
      clear hlw hft hfs hrt
      generalize Po.runs sw (Po.setT f w0) ⟨port, p0, p1, p2, p3⟩ = R2 at *
      (repeat' (first|(with_reducible first|(refine hK _ _ ?_;clear hK K)|(refine hB ?_;clear hA hB A B)|(refine hK _ ?_;clear hK K))|((with_reducible refine gO ?_);(first|((with_reducible refine z25 ?_);intro K hK;(conv=>whnf))|(with_reducible refine z0 ?_)))|((first|((with_reducible refine gI ?_);(first|(((with_reducible refine NIf.yes ?s ?_);case s=>(simp ;done)))|(((with_reducible refine NIf.no ?s ?_);case s=>(simp ;done)))))|((with_reducible refine gH ?_);((with_reducible refine NH.mk ?s ?_);case s=>(and_intros<;>first|with_reducible rfl|((with_reducible refine gOnes ?_);rfl)|((with_reducible refine gLen ?_);rfl)|((with_reducible refine gKept ?_);exact rfl)|omega|rfl)))|((with_reducible refine gC ?_);(first|((with_reducible refine NCall.isF 11 ?_);refine NCall.subw [6, 14] _ _ (cT _) rfl (by decide) rfl ?_; rintro _ _ ⟨G6, a6, u6, hle6, hatw, hat6, rfl, rfl⟩; refine ⟨Nat.le_of_ble_eq_true rfl, _, rfl, ?_⟩)|((with_reducible refine NCall.isF 6 ?_);refine NCall.subE [6] (cQ G6 a6 u6 hat6) rfl (by decide) rfl rfl ?_)|((with_reducible refine NCall.isF 13 ?_);refine NCall.subw [6] _ _ (cN G6 _ hatw) rfl (by decide) rfl ?_; rintro _ _ ⟨G7, v7, hle7, hv7, rfl, rfl⟩; refine ⟨Nat.le_of_ble_eq_true rfl, _, rfl, ?_⟩)|((with_reducible refine NCall.isF 13 ?_);refine NCall.subw [6] _ _ (cM G7) rfl (by decide) rfl ?_; rintro _ _ ⟨G8, v8, hle8, hv8, rfl, rfl⟩; refine ⟨Nat.le_of_ble_eq_true rfl, _, rfl, ?_⟩)|((with_reducible refine NCall.isF 12 ?_);refine NCall.subE [6] (cS G8 v7 v8 (hm2 _ _ _ hle8 hv7) hv8) rfl (by decide) rfl rfl ?_)|((with_reducible refine NCall.isF 8 ?_);refine NCall.subE [6] (cw G8 (((hle3.trans hle6).trans hle7).trans hle8)) rfl (by decide) rfl rfl ?_))))<;>(conv=>whnf))|((with_reducible refine gNRK ?_);((with_reducible refine st_ordSout ?_)))|((with_reducible refine gNOK ?_);(first|(refine st_ordK1 rfl (by kernel_rfl) rfl ?_; intro K hK; (conv=>whnf))|(refine st_ordK1g rfl (by kernel_rfl) rfl ?_; intro K hK; (conv=>whnf))|(refine st_ordK0 rfl (by kernel_rfl) ?_)|(refine st_ordKA rfl rfl (by kernel_rfl) (by intro h; cases h) ?_)))|((with_reducible refine gNEK ?_);(first|(refine st_eachK ?_ ?_; (intro K hK; (conv=>whnf)))|(refine st_eachKg rfl ?_ ?_; (intro K hK; (conv=>whnf)))|exact st_eachK0))|((with_reducible refine gX ?_);(first|(refine st_orderS [6, 14] rfl rfl (by kernel_rfl) _ rfl ?_)|(with_reducible first|refine z3 ?_|refine z4 ?_|refine z7 ?_|refine z8 ?_)|((with_reducible refine z29 ?_);intro A B hA hB;(conv=>whnf))))|(with_reducible first|refine z1 ?_|refine z2 ?_|refine z10 ?_|refine z11 ?_|refine z19 ?_)|((with_reducible refine gR ?_);((refine z31 rfl ?_);intro K hK;(conv=>whnf)))|((intro _;skip)<;>(conv=>whnf))))
      all_goals rfl
    · have hrt : Po.right (Po.seqT [Po.setT f v0, Po.setT f w0]) = false := by simpa using hrt
      rw [hrt] at cQ
      (repeat' (first|(with_reducible first|(refine hK _ _ ?_;clear hK K)|(refine hB ?_;clear hA hB A B)|(refine hK _ ?_;clear hK K))|((with_reducible refine gO ?_);(first|((with_reducible refine z25 ?_);intro K hK;(conv=>whnf))|(with_reducible refine z0 ?_)))|((first|((with_reducible refine gI ?_);(first|(((with_reducible refine NIf.yes ?s ?_);case s=>(simp ;done)))|(((with_reducible refine NIf.no ?s ?_);case s=>(simp ;done)))))|((with_reducible refine gH ?_);((with_reducible refine NH.mk ?s ?_);case s=>(and_intros<;>first|with_reducible rfl|((with_reducible refine gOnes ?_);rfl)|((with_reducible refine gLen ?_);rfl)|((with_reducible refine gKept ?_);exact rfl)|omega|rfl)))|((with_reducible refine gC ?_);(first|((with_reducible refine NCall.isF 11 ?_);refine NCall.subw [6, 14] _ _ (cT _) rfl (by decide) rfl ?_; rintro _ _ ⟨G6, a6, u6, hle6, hatw, hat6, rfl, rfl⟩; refine ⟨Nat.le_of_ble_eq_true rfl, _, rfl, ?_⟩)|((with_reducible refine NCall.isF 6 ?_);refine NCall.subE [6] (cQ G6 a6 u6 hat6) rfl (by decide) rfl rfl ?_)|((with_reducible refine NCall.isF 8 ?_);refine NCall.subE [6] (cw G6 (hle3.trans hle6)) rfl (by decide) rfl rfl ?_))))<;>(conv=>whnf))|((with_reducible refine gNRK ?_);((with_reducible refine st_ordSout ?_)))|((with_reducible refine gNOK ?_);(first|(refine st_ordK1 rfl (by kernel_rfl) rfl ?_; intro K hK; (conv=>whnf))|(refine st_ordK1g rfl (by kernel_rfl) rfl ?_; intro K hK; (conv=>whnf))|(refine st_ordK0 rfl (by kernel_rfl) ?_)|(refine st_ordKA rfl rfl (by kernel_rfl) (by intro h; cases h) ?_)))|((with_reducible refine gNEK ?_);(first|(refine st_eachK ?_ ?_; (intro K hK; (conv=>whnf)))|(refine st_eachKg rfl ?_ ?_; (intro K hK; (conv=>whnf)))|exact st_eachK0))|((with_reducible refine gX ?_);(first|(refine st_orderS [6, 14] rfl rfl (by kernel_rfl) _ rfl ?_)|(with_reducible first|refine z3 ?_|refine z4 ?_|refine z7 ?_|refine z8 ?_)|((with_reducible refine z29 ?_);intro A B hA hB;(conv=>whnf))))|(with_reducible first|refine z1 ?_|refine z2 ?_|refine z10 ?_|refine z11 ?_|refine z19 ?_)|((with_reducible refine gR ?_);((refine z31 rfl ?_);intro K hK;(conv=>whnf)))|((intro _;skip)<;>(conv=>whnf))))
      all_goals rfl
end Go.Proofs.YtngodakgbldlpaaGreatDoor
namespace Go.Proofs.YtngodakgbldlpaaGreatDoor
open Go.Sx Go.RowKit Go.ChangeShapes Go.WideShapes
set_option maxRecDepth 20000
set_option linter.unusedVariables false
theorem fit64 {x : Int} (h : (Lit.int .i64 x).wf = true) : -9223372036854775808 ≤ x ∧ x ≤ 9223372036854775807 := by
  have e1 : IntKind.i64.min = -9223372036854775808 := by decide
  have e2 : IntKind.i64.max = 9223372036854775807 := by decide
  simp only [Lit.wf, e1, e2, Bool.and_eq_true, decide_eq_true_eq] at h
  exact h
theorem bulk_le {H : Type} : ∀ (l : List Pd.T) (es : List (DataW H × List MemPlace)), l.length = es.length → (∀ (i : Nat) (p : Pd.T) (e : DataW H × List MemPlace), l[i]? = some p → es[i]? = some e → Pd.size p ≤ Rows.uptoBulk e.1) → Pd.sizeL l ≤ Rows.uptoBulkAll (es.map (·.1))
  | [], _, _, _ => by rw [Pd.sizeL]; exact Nat.zero_le _
  | p :: l, [], h, _ => by simp at h
  | p :: l, e :: es, h, hi => by
    have h1 := hi 0 p e rfl rfl
    have h2 := bulk_le l es (by simpa using h) fun i q f hq hf => hi (i + 1) q f (by simpa using hq) (by simpa using hf)
    rw [Pd.sizeL, List.map_cons, Rows.uptoBulkAll]
    omega
section
variable {H : Type} {enc : TypeId × Value → H} {W : World} {spare : Nat → Bool} {held : Bool}
theorem open26 (t tS : TypeId) (fs : Array Field) (hT : Tryz.prog.underlying t = some (.struct fs)) (hS : Tryz.prog.underlying tS = some (.slice t)) (ti : TypeId) (hI : Tryz.prog.underlying ti = some (.int .i64))
    (hfs : fs.toList.map (fun f => (f.type, f.offset)) = [(ti, 0), (ti, 1), (ti, 2), (tS, 3)]) (hc : Tryz.prog.cellsOf t = 4) (hci : Tryz.prog.cellsOf ti = 1) (hcs : Tryz.prog.cellsOf tS = 1) :
    ∀ (N fuel : Nat) (cs : List Value) (x : DataW H × List MemPlace), fuel ≤ N → DataW.trod enc Tryz.prog W 0 spare held fuel t cs = some x → ∃ p : Pd.T, Pd.R (cellsW W) p cs ∧ Pd.in64 p ∧ Pd.size p ≤ Rows.uptoBulk x.1
  | 0, fuel, cs, x, hN, hx => by
    obtain ⟨xs, n, h1, _⟩ := DataW.trod_struct hT hx
    omega
  | N + 1, fuel, cs, x, hN, hx => by
    obtain ⟨xs, n, h1, h2, hlen, hxl, hf⟩ := DataW.trod_struct hT hx
    have hfs4 : fs.size = 4 := by have := congrArg List.length hfs; simpa using this
    have hat : ∀ i (hi : i < 4), ∃ f, fs[i]? = some f ∧ (f.type, f.offset) = [(ti, 0), (ti, 1), (ti, 2), (tS, 3)][i] := fun i hi => by
      have hi' : i < fs.size := by omega
      refine ⟨fs[i], Array.getElem?_eq_getElem hi', ?_⟩
      have := congrArg (fun l => l[i]?) hfs
      simp only [List.getElem?_map, Array.getElem?_toList, Array.getElem?_eq_getElem hi', Option.map_some, List.getElem?_eq_getElem (show i < [(ti, 0), (ti, 1), (ti, 2), (tS, 3)].length by simpa using hi), Option.some.injEq] at this
      exact this
    match cs, (hlen.trans hc) with
    | [c0, c1, c2, c3], _ =>
      match xs, (hxl.trans hfs4) with
      | [x0, x1, x2, x3], _ =>
        obtain ⟨f0, g0, e0⟩ := hat 0 (by decide)
        obtain ⟨f1, g1, e1⟩ := hat 1 (by decide)
        obtain ⟨f2, g2, e2⟩ := hat 2 (by decide)
        obtain ⟨f3, g3, e3⟩ := hat 3 (by decide)
        simp only [List.getElem_cons_zero, List.getElem_cons_succ, Prod.mk.injEq] at e0 e1 e2 e3
        have t0 := hf 0 f0 g0
        have t1 := hf 1 f1 g1
        have t2 := hf 2 f2 g2
        have t3 := hf 3 f3 g3
        rw [e0.1, e0.2, hci] at t0
        rw [e1.1, e1.2, hci] at t1
        rw [e2.1, e2.2, hci] at t2
        rw [e3.1, e3.2, hcs] at t3
        simp only [List.drop_zero, List.take_succ_cons, List.take_zero, List.drop_succ_cons, List.getElem?_cons_zero, List.getElem?_cons_succ] at t0 t1 t2 t3
        obtain ⟨k, ek, _, wk⟩ := DataW.trod_int hI t0
        obtain ⟨a, ea, _, wa⟩ := DataW.trod_int hI t1
        obtain ⟨v, ev, _, wv⟩ := DataW.trod_int hI t2
        cases ek
        cases ea
        cases ev
        rcases DataW.trod_slice hS t3 with ⟨es, _⟩ | ⟨b, len, cap, elems, rest, n', hn', es, ex3, _, hl, hm, hel, hat', _⟩
        · cases es
          refine ⟨.mk k a v [], Pd.R.of (p := .mk k a v []) (A := none) (cap := 0) RowF.nil, by simp only [Pd.in64, Pd.in64L, and_true]; exact ⟨fit64 wk, fit64 wa, fit64 wv⟩, ?_⟩
          rw [Pd.size, Pd.sizeL, h2]
          simp only [Rows.uptoBulk]
          omega
        · cases es
          have hel2 : ∀ i, i < len → ∃ p : Pd.T, (∃ cs', cs'.length = 4 ∧ CellsF (cellsW W) b (i * 4) cs' ∧ Pd.R (cellsW W) p cs') ∧ Pd.in64 p ∧ ∀ e, elems[i]? = some e → Pd.size p ≤ Rows.uptoBulk e.1 := fun i hi => by
            have h1 := hat' i hi
            rw [List.getElem?_eq_getElem (by omega), Option.bind_eq_some_iff] at h1
            obtain ⟨cs', h3, h4⟩ := h1
            obtain ⟨p, h5, h6, h7⟩ := open26 t tS fs hT hS ti hI hfs hc hci hcs N n' cs' _ (by omega) h4
            obtain ⟨_, h8, h9⟩ := World.cells?_some h3
            rw [hc] at h8 h9
            refine ⟨p, ⟨cs', by omega, cellsF_of cs' _ fun j u hj => ?_, h5⟩, h6, fun e he => ?_⟩
            · have := h9 j (by have := (List.getElem?_eq_some_iff.1 hj).1; omega)
              rw [add_of_add] at this
              exact this.trans hj
            · rw [List.getElem?_eq_getElem (by omega)] at he
              cases he
              exact h7
          obtain ⟨l, hll, hl2⟩ := list_of hel2
          subst hll
          have hrow : Pd.Row (cellsW W) (.slice (some b) l.length cap) l := ⟨⟨some b, cap, rfl, hl, by simp⟩, fun i p hp => by
            obtain ⟨⟨cs', h3, h4, h5⟩, _⟩ := hl2 i p hp
            exact ⟨cs', h5, h3, h4⟩⟩
          refine ⟨.mk k a v l, Pd.R.of (p := .mk k a v l) (A := some b) (cap := cap) hrow, ?_, ?_⟩
          · simp only [Pd.in64, Pd.in64L_iff]
            refine ⟨⟨fit64 wk, fit64 wa, fit64 wv⟩, fun p hp => ?_⟩
            obtain ⟨i, hi⟩ := List.getElem?_of_mem hp
            exact (hl2 i p hi).2.1
          · have hb := bulk_le l elems hel.symm fun i p e hp he => (hl2 i p hp).2.2 e he
            have e3' : x3.1 = .slice (elems.map (·.1)) (rest.map (·.1)) := by rw [ex3]
            rw [Pd.size, h2]
            simp only [List.map_cons, List.map_nil, Rows.uptoBulk, Rows.uptoBulkAll, e3']
            omega
end
end Go.Proofs.YtngodakgbldlpaaGreatDoor

