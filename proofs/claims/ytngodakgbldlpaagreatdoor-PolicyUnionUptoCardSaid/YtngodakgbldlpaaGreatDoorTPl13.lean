/-
  PolicyUnion, walked.
-/
import Derived.Test.YtngodakgbldlpaaGreatDoorTJ6
import Derived.Test.YtngodakgbldlpaaGreatDoorTPl10
import Derived.Test.YtngodakgbldlpaaGreatDoorTJ13
import Derived.Test.YtngodakgbldlpaaGreatDoorTPo6
import Derived.Test.YtngodakgbldlpaaGreatDoorTJ4
namespace Go.Proofs.YtngodakgbldlpaaGreatDoor
open Go.Sx
set_option maxRecDepth 20000
set_option linter.unusedSimpArgs false
set_option linter.unusedVariables false
set_option maxHeartbeats 64000000
set_option linter.unusedVariables false
namespace Po
/-- What is held against what. -/
def prs (x y z : T) (c : Pd.T) : List (T × T) := [(uniT [x, y], uniT [y, x, y]), (seqT [x, y, z], seqT [x, seqT [y, z]]), (ifT c [x, y], uniT [seqT [filT c, x], seqT [filT (notP c), y]])]
theorem prs_law (sw : Int) (x y z : T) (c : Pd.T) (q : S) {i : Nat} {r : T × T} (h : (prs x y z c)[i]? = some r) : runs sw r.1 q = runs sw r.2 q := by
  match i, h with
  | 0, h => injection h with h; rw [← h]; exact union_law sw x y q
  | 1, h => injection h with h; rw [← h]; exact seq_law sw x y z q
  | 2, h => injection h with h; rw [← h]; exact if_law sw c x y q
theorem prs_tot {x y z : T} {c : Pd.T} {i : Nat} {r : T × T} (h : (prs x y z c)[i]? = some r) : tot r.1 ≤ 4 * (tot x + tot y + tot z + Pd.size c) + 40 ∧ tot r.2 ≤ 4 * (tot x + tot y + tot z + Pd.size c) + 40 := by
  have h := List.mem_of_getElem? h
  simp only [prs, List.mem_cons, List.not_mem_nil, or_false] at h
  rcases h with rfl | rfl | rfl <;> constructor <;> simp [seqT, uniT, filT, ifT, notP, noneP, tot, totL, Pd.size, Pd.sizeL] <;> omega
end Po
/-- The rows that the law makes. -/
def prLits (k pk pf pv f v k2 pk2 pf2 pv2 f2 v2 k3 pk3 pf3 pv3 f3 v3 ck cf cv : Int) (pl pl2 pl3 cl : List Pd.T) (l l2 l3 : List Po.T) (a1 u1 a2 u2 a3 u3 cu : Value) (b55 b58 b62 b66 b71 b73 b77 b82 b84 b86 b90 b94 b96 b97 : Nat) : List OwnR := [⟨.slice (some ⟨b55, 0, none⟩) 2 2, [.int .i64 1, .int .i64 ck, .int .i64 cf, .int .i64 cv, .hs cu cl.length, .int .i64 0, .int .i64 0, .raw (.slice none 0 0), .int .i64 k, .int .i64 pk, .int .i64 pf, .int .i64 pv, .hs a1 pl.length, .int .i64 f, .int .i64 v, .hs u1 l.length], 38, 8, 2⟩,
  ⟨.slice (some ⟨b58, 0, none⟩) 1 1, [.int .i64 ck, .int .i64 cf, .int .i64 cv, .hs cu cl.length], 35, 4, 1⟩,
  ⟨.slice (some ⟨b62, 0, none⟩) 2 2, [.int .i64 1, .int .i64 4, .int .i64 0, .int .i64 0, .sl 12 (.slice (some ⟨b58, 0, none⟩) 1 1) 1, .int .i64 0, .int .i64 0, .raw (.slice none 0 0), .int .i64 k2, .int .i64 pk2, .int .i64 pf2, .int .i64 pv2, .hs a2 pl2.length, .int .i64 f2, .int .i64 v2, .hs u2 l2.length], 38, 8, 2⟩,
  ⟨.slice (some ⟨b66, 0, none⟩) 2 2, [.int .i64 k, .int .i64 pk, .int .i64 pf, .int .i64 pv, .hs a1 pl.length, .int .i64 f, .int .i64 v, .hs u1 l.length, .int .i64 k2, .int .i64 pk2, .int .i64 pf2, .int .i64 pv2, .hs a2 pl2.length, .int .i64 f2, .int .i64 v2, .hs u2 l2.length], 38, 8, 2⟩,
  ⟨.slice (some ⟨b71, 0, none⟩) 3 3, [.int .i64 k2, .int .i64 pk2, .int .i64 pf2, .int .i64 pv2, .hs a2 pl2.length, .int .i64 f2, .int .i64 v2, .hs u2 l2.length, .int .i64 k, .int .i64 pk, .int .i64 pf, .int .i64 pv, .hs a1 pl.length, .int .i64 f, .int .i64 v, .hs u1 l.length, .int .i64 k2, .int .i64 pk2, .int .i64 pf2, .int .i64 pv2, .hs a2 pl2.length, .int .i64 f2, .int .i64 v2, .hs u2 l2.length], 38, 8, 3⟩,
  ⟨.slice (some ⟨b73, 0, none⟩) 2 2, [.int .i64 4, .int .i64 0, .int .i64 0, .int .i64 0, .raw (.slice none 0 0), .int .i64 0, .int .i64 0, .sl 15 (.slice (some ⟨b66, 0, none⟩) 2 2) 2, .int .i64 4, .int .i64 0, .int .i64 0, .int .i64 0, .raw (.slice none 0 0), .int .i64 0, .int .i64 0, .sl 16 (.slice (some ⟨b71, 0, none⟩) 3 3) 3], 38, 8, 2⟩,
  ⟨.slice (some ⟨b77, 0, none⟩) 3 3, [.int .i64 k, .int .i64 pk, .int .i64 pf, .int .i64 pv, .hs a1 pl.length, .int .i64 f, .int .i64 v, .hs u1 l.length, .int .i64 k2, .int .i64 pk2, .int .i64 pf2, .int .i64 pv2, .hs a2 pl2.length, .int .i64 f2, .int .i64 v2, .hs u2 l2.length, .int .i64 k3, .int .i64 pk3, .int .i64 pf3, .int .i64 pv3, .hs a3 pl3.length, .int .i64 f3, .int .i64 v3, .hs u3 l3.length], 38, 8, 3⟩,
  ⟨.slice (some ⟨b82, 0, none⟩) 2 2, [.int .i64 k2, .int .i64 pk2, .int .i64 pf2, .int .i64 pv2, .hs a2 pl2.length, .int .i64 f2, .int .i64 v2, .hs u2 l2.length, .int .i64 k3, .int .i64 pk3, .int .i64 pf3, .int .i64 pv3, .hs a3 pl3.length, .int .i64 f3, .int .i64 v3, .hs u3 l3.length], 38, 8, 2⟩,
  ⟨.slice (some ⟨b84, 0, none⟩) 2 2, [.int .i64 k, .int .i64 pk, .int .i64 pf, .int .i64 pv, .hs a1 pl.length, .int .i64 f, .int .i64 v, .hs u1 l.length, .int .i64 3, .int .i64 0, .int .i64 0, .int .i64 0, .raw (.slice none 0 0), .int .i64 0, .int .i64 0, .sl 19 (.slice (some ⟨b82, 0, none⟩) 2 2) 2], 38, 8, 2⟩,
  ⟨.slice (some ⟨b86, 0, none⟩) 2 2, [.int .i64 3, .int .i64 0, .int .i64 0, .int .i64 0, .raw (.slice none 0 0), .int .i64 0, .int .i64 0, .sl 18 (.slice (some ⟨b77, 0, none⟩) 3 3) 3, .int .i64 3, .int .i64 0, .int .i64 0, .int .i64 0, .raw (.slice none 0 0), .int .i64 0, .int .i64 0, .sl 20 (.slice (some ⟨b84, 0, none⟩) 2 2) 2], 38, 8, 2⟩,
  ⟨.slice (some ⟨b90, 0, none⟩) 2 2, [.int .i64 k, .int .i64 pk, .int .i64 pf, .int .i64 pv, .hs a1 pl.length, .int .i64 f, .int .i64 v, .hs u1 l.length, .int .i64 k2, .int .i64 pk2, .int .i64 pf2, .int .i64 pv2, .hs a2 pl2.length, .int .i64 f2, .int .i64 v2, .hs u2 l2.length], 38, 8, 2⟩,
  ⟨.slice (some ⟨b94, 0, none⟩) 2 2, [.int .i64 3, .int .i64 0, .int .i64 0, .int .i64 0, .raw (.slice none 0 0), .int .i64 0, .int .i64 0, .sl 10 (.slice (some ⟨b55, 0, none⟩) 2 2) 2, .int .i64 3, .int .i64 0, .int .i64 0, .int .i64 0, .raw (.slice none 0 0), .int .i64 0, .int .i64 0, .sl 13 (.slice (some ⟨b62, 0, none⟩) 2 2) 2], 38, 8, 2⟩,
  ⟨.slice (some ⟨b96, 0, none⟩) 2 2, [.int .i64 5, .int .i64 ck, .int .i64 cf, .int .i64 cv, .hs cu cl.length, .int .i64 0, .int .i64 0, .sl 22 (.slice (some ⟨b90, 0, none⟩) 2 2) 2, .int .i64 4, .int .i64 0, .int .i64 0, .int .i64 0, .raw (.slice none 0 0), .int .i64 0, .int .i64 0, .sl 23 (.slice (some ⟨b94, 0, none⟩) 2 2) 2], 38, 8, 2⟩,
  ⟨.slice (some ⟨b97, 0, none⟩) 3 3, [.sl 17 (.slice (some ⟨b73, 0, none⟩) 2 2) 2, .sl 21 (.slice (some ⟨b86, 0, none⟩) 2 2) 2, .sl 24 (.slice (some ⟨b96, 0, none⟩) 2 2) 2], 36, 1, 3⟩]
/-- A row of rows of two. -/
def prV (v : Value) : List Value := [v]
theorem pr_rows (F : Heap) (k pk pf pv f v k2 pk2 pf2 pv2 f2 v2 k3 pk3 pf3 pv3 f3 v3 ck cf cv : Int) (pl pl2 pl3 cl : List Pd.T) (l l2 l3 : List Po.T) (a1 u1 a2 u2 a3 u3 cu : Value) (b55 b58 b62 b66 b71 b73 b77 b82 b84 b86 b90 b94 b96 b97 : Nat) (hA : Po.At F (.mk k (.mk pk pf pv pl) f v l) a1 u1) (hB : Po.At F (.mk k2 (.mk pk2 pf2 pv2 pl2) f2 v2 l2) a2 u2) (hD : Po.At F (.mk k3 (.mk pk3 pf3 pv3 pl3) f3 v3 l3) a3 u3) (hC : Pd.Row F cu cl) (i : Nat) (hi : i < 3) :
    ∃ b r, (Po.prs (.mk k (.mk pk pf pv pl) f v l) (.mk k2 (.mk pk2 pf2 pv2 pl2) f2 v2 l2) (.mk k3 (.mk pk3 pf3 pv3 pl3) f3 v3 l3) (.mk ck cf cv cl))[i]? = some r ∧ (addLs F (prLits k pk pf pv f v k2 pk2 pf2 pv2 f2 v2 k3 pk3 pf3 pv3 f3 v3 ck cf cv pl pl2 pl3 cl l l2 l3 a1 u1 a2 u2 a3 u3 cu b55 b58 b62 b66 b71 b73 b77 b82 b84 b86 b90 b94 b96 b97)).c ((addrOf (.slice (some ⟨b97, 0, none⟩) 3 3)).add i) (.slice (some ⟨b, 0, none⟩) 2 2) ∧ Po.Row (addLs F (prLits k pk pf pv f v k2 pk2 pf2 pv2 f2 v2 k3 pk3 pf3 pv3 f3 v3 ck cf cv pl pl2 pl3 cl l l2 l3 a1 u1 a2 u2 a3 u3 cu b55 b58 b62 b66 b71 b73 b77 b82 b84 b86 b90 b94 b96 b97)) (.slice (some ⟨b, 0, none⟩) 2 2) [r.1, r.2] := by
  have hok : ∀ (b n : Nat), SlOk (.slice (some ⟨b, 0, none⟩) n n) n := fun b n => ⟨_, _, rfl, Nat.le_refl _, fun h => by cases h⟩
  have hA := Po.At.mono (addLs.old (l := prLits k pk pf pv f v k2 pk2 pf2 pv2 f2 v2 k3 pk3 pf3 pv3 f3 v3 ck cf cv pl pl2 pl3 cl l l2 l3 a1 u1 a2 u2 a3 u3 cu b55 b58 b62 b66 b71 b73 b77 b82 b84 b86 b90 b94 b96 b97)) hA
  have hB := Po.At.mono (addLs.old (l := prLits k pk pf pv f v k2 pk2 pf2 pv2 f2 v2 k3 pk3 pf3 pv3 f3 v3 ck cf cv pl pl2 pl3 cl l l2 l3 a1 u1 a2 u2 a3 u3 cu b55 b58 b62 b66 b71 b73 b77 b82 b84 b86 b90 b94 b96 b97)) hB
  have hD := Po.At.mono (addLs.old (l := prLits k pk pf pv f v k2 pk2 pf2 pv2 f2 v2 k3 pk3 pf3 pv3 f3 v3 ck cf cv pl pl2 pl3 cl l l2 l3 a1 u1 a2 u2 a3 u3 cu b55 b58 b62 b66 b71 b73 b77 b82 b84 b86 b90 b94 b96 b97)) hD
  have hC := Pd.Row.mono (addLs.old (l := prLits k pk pf pv f v k2 pk2 pf2 pv2 f2 v2 k3 pk3 pf3 pv3 f3 v3 ck cf cv pl pl2 pl3 cl l l2 l3 a1 u1 a2 u2 a3 u3 cu b55 b58 b62 b66 b71 b73 b77 b82 b84 b86 b90 b94 b96 b97)) hC
  have r58 := addLs.row (enc := Pd.psV) (sz := 4) (F := F) (l := prLits k pk pf pv f v k2 pk2 pf2 pv2 f2 v2 k3 pk3 pf3 pv3 f3 v3 ck cf cv pl pl2 pl3 cl l l2 l3 a1 u1 a2 u2 a3 u3 cu b55 b58 b62 b66 b71 b73 b77 b82 b84 b86 b90 b94 b96 b97) (ps := [((.mk ck cf cv cl), cu)]) (List.mem_of_getElem? (i := 1) rfl) (hok b58 1) rfl (fun _ _ => rfl)
  have p58 := Pd.row_of r58 fun y hy => by rw [List.mem_singleton.1 hy]; exact hC
  have r55 := addLs.row (enc := Po.psV) (sz := 8) (F := F) (l := prLits k pk pf pv f v k2 pk2 pf2 pv2 f2 v2 k3 pk3 pf3 pv3 f3 v3 ck cf cv pl pl2 pl3 cl l l2 l3 a1 u1 a2 u2 a3 u3 cu b55 b58 b62 b66 b71 b73 b77 b82 b84 b86 b90 b94 b96 b97) (ps := [⟨(Po.filT (.mk ck cf cv cl)), cu, (.slice none 0 0)⟩, ⟨(.mk k (.mk pk pf pv pl) f v l), a1, u1⟩]) (List.mem_of_getElem? (i := 0) rfl) (hok b55 2) rfl (fun _ _ => rfl)
  have p55 := Po.row_of r55 fun y hy => by
    rcases List.mem_cons.1 hy with rfl | hy
    · exact ⟨hC, RowF.nil⟩
    rw [List.mem_singleton.1 hy]; exact hA
  have r62 := addLs.row (enc := Po.psV) (sz := 8) (F := F) (l := prLits k pk pf pv f v k2 pk2 pf2 pv2 f2 v2 k3 pk3 pf3 pv3 f3 v3 ck cf cv pl pl2 pl3 cl l l2 l3 a1 u1 a2 u2 a3 u3 cu b55 b58 b62 b66 b71 b73 b77 b82 b84 b86 b90 b94 b96 b97) (ps := [⟨(Po.filT (Po.notP (.mk ck cf cv cl))), (.slice (some ⟨b58, 0, none⟩) 1 1), (.slice none 0 0)⟩, ⟨(.mk k2 (.mk pk2 pf2 pv2 pl2) f2 v2 l2), a2, u2⟩]) (List.mem_of_getElem? (i := 2) rfl) (hok b62 2) rfl (fun _ _ => rfl)
  have p62 := Po.row_of r62 fun y hy => by
    rcases List.mem_cons.1 hy with rfl | hy
    · exact ⟨p58, RowF.nil⟩
    rw [List.mem_singleton.1 hy]; exact hB
  have r66 := addLs.row (enc := Po.psV) (sz := 8) (F := F) (l := prLits k pk pf pv f v k2 pk2 pf2 pv2 f2 v2 k3 pk3 pf3 pv3 f3 v3 ck cf cv pl pl2 pl3 cl l l2 l3 a1 u1 a2 u2 a3 u3 cu b55 b58 b62 b66 b71 b73 b77 b82 b84 b86 b90 b94 b96 b97) (ps := [⟨(.mk k (.mk pk pf pv pl) f v l), a1, u1⟩, ⟨(.mk k2 (.mk pk2 pf2 pv2 pl2) f2 v2 l2), a2, u2⟩]) (List.mem_of_getElem? (i := 3) rfl) (hok b66 2) rfl (fun _ _ => rfl)
  have p66 := Po.row_of r66 fun y hy => by
    rcases List.mem_cons.1 hy with rfl | hy
    · exact hA
    rw [List.mem_singleton.1 hy]; exact hB
  have r71 := addLs.row (enc := Po.psV) (sz := 8) (F := F) (l := prLits k pk pf pv f v k2 pk2 pf2 pv2 f2 v2 k3 pk3 pf3 pv3 f3 v3 ck cf cv pl pl2 pl3 cl l l2 l3 a1 u1 a2 u2 a3 u3 cu b55 b58 b62 b66 b71 b73 b77 b82 b84 b86 b90 b94 b96 b97) (ps := [⟨(.mk k2 (.mk pk2 pf2 pv2 pl2) f2 v2 l2), a2, u2⟩, ⟨(.mk k (.mk pk pf pv pl) f v l), a1, u1⟩, ⟨(.mk k2 (.mk pk2 pf2 pv2 pl2) f2 v2 l2), a2, u2⟩]) (List.mem_of_getElem? (i := 4) rfl) (hok b71 3) rfl (fun _ _ => rfl)
  have p71 := Po.row_of r71 fun y hy => by
    rcases List.mem_cons.1 hy with rfl | hy
    · exact hB
    rcases List.mem_cons.1 hy with rfl | hy
    · exact hA
    rw [List.mem_singleton.1 hy]; exact hB
  have r73 := addLs.row (enc := Po.psV) (sz := 8) (F := F) (l := prLits k pk pf pv f v k2 pk2 pf2 pv2 f2 v2 k3 pk3 pf3 pv3 f3 v3 ck cf cv pl pl2 pl3 cl l l2 l3 a1 u1 a2 u2 a3 u3 cu b55 b58 b62 b66 b71 b73 b77 b82 b84 b86 b90 b94 b96 b97) (ps := [⟨(Po.uniT [(.mk k (.mk pk pf pv pl) f v l), (.mk k2 (.mk pk2 pf2 pv2 pl2) f2 v2 l2)]), (.slice none 0 0), (.slice (some ⟨b66, 0, none⟩) 2 2)⟩, ⟨(Po.uniT [(.mk k2 (.mk pk2 pf2 pv2 pl2) f2 v2 l2), (.mk k (.mk pk pf pv pl) f v l), (.mk k2 (.mk pk2 pf2 pv2 pl2) f2 v2 l2)]), (.slice none 0 0), (.slice (some ⟨b71, 0, none⟩) 3 3)⟩]) (List.mem_of_getElem? (i := 5) rfl) (hok b73 2) rfl (fun _ _ => rfl)
  have p73 := Po.row_of r73 fun y hy => by
    rcases List.mem_cons.1 hy with rfl | hy
    · exact ⟨RowF.nil, p66⟩
    rw [List.mem_singleton.1 hy]; exact ⟨RowF.nil, p71⟩
  have r77 := addLs.row (enc := Po.psV) (sz := 8) (F := F) (l := prLits k pk pf pv f v k2 pk2 pf2 pv2 f2 v2 k3 pk3 pf3 pv3 f3 v3 ck cf cv pl pl2 pl3 cl l l2 l3 a1 u1 a2 u2 a3 u3 cu b55 b58 b62 b66 b71 b73 b77 b82 b84 b86 b90 b94 b96 b97) (ps := [⟨(.mk k (.mk pk pf pv pl) f v l), a1, u1⟩, ⟨(.mk k2 (.mk pk2 pf2 pv2 pl2) f2 v2 l2), a2, u2⟩, ⟨(.mk k3 (.mk pk3 pf3 pv3 pl3) f3 v3 l3), a3, u3⟩]) (List.mem_of_getElem? (i := 6) rfl) (hok b77 3) rfl (fun _ _ => rfl)
  have p77 := Po.row_of r77 fun y hy => by
    rcases List.mem_cons.1 hy with rfl | hy
    · exact hA
    rcases List.mem_cons.1 hy with rfl | hy
    · exact hB
    rw [List.mem_singleton.1 hy]; exact hD
  have r82 := addLs.row (enc := Po.psV) (sz := 8) (F := F) (l := prLits k pk pf pv f v k2 pk2 pf2 pv2 f2 v2 k3 pk3 pf3 pv3 f3 v3 ck cf cv pl pl2 pl3 cl l l2 l3 a1 u1 a2 u2 a3 u3 cu b55 b58 b62 b66 b71 b73 b77 b82 b84 b86 b90 b94 b96 b97) (ps := [⟨(.mk k2 (.mk pk2 pf2 pv2 pl2) f2 v2 l2), a2, u2⟩, ⟨(.mk k3 (.mk pk3 pf3 pv3 pl3) f3 v3 l3), a3, u3⟩]) (List.mem_of_getElem? (i := 7) rfl) (hok b82 2) rfl (fun _ _ => rfl)
  have p82 := Po.row_of r82 fun y hy => by
    rcases List.mem_cons.1 hy with rfl | hy
    · exact hB
    rw [List.mem_singleton.1 hy]; exact hD
  have r84 := addLs.row (enc := Po.psV) (sz := 8) (F := F) (l := prLits k pk pf pv f v k2 pk2 pf2 pv2 f2 v2 k3 pk3 pf3 pv3 f3 v3 ck cf cv pl pl2 pl3 cl l l2 l3 a1 u1 a2 u2 a3 u3 cu b55 b58 b62 b66 b71 b73 b77 b82 b84 b86 b90 b94 b96 b97) (ps := [⟨(.mk k (.mk pk pf pv pl) f v l), a1, u1⟩, ⟨(Po.seqT [(.mk k2 (.mk pk2 pf2 pv2 pl2) f2 v2 l2), (.mk k3 (.mk pk3 pf3 pv3 pl3) f3 v3 l3)]), (.slice none 0 0), (.slice (some ⟨b82, 0, none⟩) 2 2)⟩]) (List.mem_of_getElem? (i := 8) rfl) (hok b84 2) rfl (fun _ _ => rfl)
  have p84 := Po.row_of r84 fun y hy => by
    rcases List.mem_cons.1 hy with rfl | hy
    · exact hA
    rw [List.mem_singleton.1 hy]; exact ⟨RowF.nil, p82⟩
  have r86 := addLs.row (enc := Po.psV) (sz := 8) (F := F) (l := prLits k pk pf pv f v k2 pk2 pf2 pv2 f2 v2 k3 pk3 pf3 pv3 f3 v3 ck cf cv pl pl2 pl3 cl l l2 l3 a1 u1 a2 u2 a3 u3 cu b55 b58 b62 b66 b71 b73 b77 b82 b84 b86 b90 b94 b96 b97) (ps := [⟨(Po.seqT [(.mk k (.mk pk pf pv pl) f v l), (.mk k2 (.mk pk2 pf2 pv2 pl2) f2 v2 l2), (.mk k3 (.mk pk3 pf3 pv3 pl3) f3 v3 l3)]), (.slice none 0 0), (.slice (some ⟨b77, 0, none⟩) 3 3)⟩, ⟨(Po.seqT [(.mk k (.mk pk pf pv pl) f v l), (Po.seqT [(.mk k2 (.mk pk2 pf2 pv2 pl2) f2 v2 l2), (.mk k3 (.mk pk3 pf3 pv3 pl3) f3 v3 l3)])]), (.slice none 0 0), (.slice (some ⟨b84, 0, none⟩) 2 2)⟩]) (List.mem_of_getElem? (i := 9) rfl) (hok b86 2) rfl (fun _ _ => rfl)
  have p86 := Po.row_of r86 fun y hy => by
    rcases List.mem_cons.1 hy with rfl | hy
    · exact ⟨RowF.nil, p77⟩
    rw [List.mem_singleton.1 hy]; exact ⟨RowF.nil, p84⟩
  have r90 := addLs.row (enc := Po.psV) (sz := 8) (F := F) (l := prLits k pk pf pv f v k2 pk2 pf2 pv2 f2 v2 k3 pk3 pf3 pv3 f3 v3 ck cf cv pl pl2 pl3 cl l l2 l3 a1 u1 a2 u2 a3 u3 cu b55 b58 b62 b66 b71 b73 b77 b82 b84 b86 b90 b94 b96 b97) (ps := [⟨(.mk k (.mk pk pf pv pl) f v l), a1, u1⟩, ⟨(.mk k2 (.mk pk2 pf2 pv2 pl2) f2 v2 l2), a2, u2⟩]) (List.mem_of_getElem? (i := 10) rfl) (hok b90 2) rfl (fun _ _ => rfl)
  have p90 := Po.row_of r90 fun y hy => by
    rcases List.mem_cons.1 hy with rfl | hy
    · exact hA
    rw [List.mem_singleton.1 hy]; exact hB
  have r94 := addLs.row (enc := Po.psV) (sz := 8) (F := F) (l := prLits k pk pf pv f v k2 pk2 pf2 pv2 f2 v2 k3 pk3 pf3 pv3 f3 v3 ck cf cv pl pl2 pl3 cl l l2 l3 a1 u1 a2 u2 a3 u3 cu b55 b58 b62 b66 b71 b73 b77 b82 b84 b86 b90 b94 b96 b97) (ps := [⟨(Po.seqT [(Po.filT (.mk ck cf cv cl)), (.mk k (.mk pk pf pv pl) f v l)]), (.slice none 0 0), (.slice (some ⟨b55, 0, none⟩) 2 2)⟩, ⟨(Po.seqT [(Po.filT (Po.notP (.mk ck cf cv cl))), (.mk k2 (.mk pk2 pf2 pv2 pl2) f2 v2 l2)]), (.slice none 0 0), (.slice (some ⟨b62, 0, none⟩) 2 2)⟩]) (List.mem_of_getElem? (i := 11) rfl) (hok b94 2) rfl (fun _ _ => rfl)
  have p94 := Po.row_of r94 fun y hy => by
    rcases List.mem_cons.1 hy with rfl | hy
    · exact ⟨RowF.nil, p55⟩
    rw [List.mem_singleton.1 hy]; exact ⟨RowF.nil, p62⟩
  have r96 := addLs.row (enc := Po.psV) (sz := 8) (F := F) (l := prLits k pk pf pv f v k2 pk2 pf2 pv2 f2 v2 k3 pk3 pf3 pv3 f3 v3 ck cf cv pl pl2 pl3 cl l l2 l3 a1 u1 a2 u2 a3 u3 cu b55 b58 b62 b66 b71 b73 b77 b82 b84 b86 b90 b94 b96 b97) (ps := [⟨(Po.ifT (.mk ck cf cv cl) [(.mk k (.mk pk pf pv pl) f v l), (.mk k2 (.mk pk2 pf2 pv2 pl2) f2 v2 l2)]), cu, (.slice (some ⟨b90, 0, none⟩) 2 2)⟩, ⟨(Po.uniT [(Po.seqT [(Po.filT (.mk ck cf cv cl)), (.mk k (.mk pk pf pv pl) f v l)]), (Po.seqT [(Po.filT (Po.notP (.mk ck cf cv cl))), (.mk k2 (.mk pk2 pf2 pv2 pl2) f2 v2 l2)])]), (.slice none 0 0), (.slice (some ⟨b94, 0, none⟩) 2 2)⟩]) (List.mem_of_getElem? (i := 12) rfl) (hok b96 2) rfl (fun _ _ => rfl)
  have p96 := Po.row_of r96 fun y hy => by
    rcases List.mem_cons.1 hy with rfl | hy
    · exact ⟨hC, p90⟩
    rw [List.mem_singleton.1 hy]; exact ⟨RowF.nil, p94⟩
  have r97 := addLs.row (enc := prV) (sz := 1) (F := F) (l := prLits k pk pf pv f v k2 pk2 pf2 pv2 f2 v2 k3 pk3 pf3 pv3 f3 v3 ck cf cv pl pl2 pl3 cl l l2 l3 a1 u1 a2 u2 a3 u3 cu b55 b58 b62 b66 b71 b73 b77 b82 b84 b86 b90 b94 b96 b97) (ps := [(.slice (some ⟨b73, 0, none⟩) 2 2), (.slice (some ⟨b86, 0, none⟩) 2 2), (.slice (some ⟨b96, 0, none⟩) 2 2)]) (List.mem_of_getElem? (i := 13) rfl) (hok b97 3) rfl (fun _ _ => rfl)
  have g : ∀ (j : Nat) (vv : Value), ([(.slice (some ⟨b73, 0, none⟩) 2 2), (.slice (some ⟨b86, 0, none⟩) 2 2), (.slice (some ⟨b96, 0, none⟩) 2 2)] : List Value)[j]? = some vv → (addLs F (prLits k pk pf pv f v k2 pk2 pf2 pv2 f2 v2 k3 pk3 pf3 pv3 f3 v3 ck cf cv pl pl2 pl3 cl l l2 l3 a1 u1 a2 u2 a3 u3 cu b55 b58 b62 b66 b71 b73 b77 b82 b84 b86 b90 b94 b96 b97)).c ((addrOf (.slice (some ⟨b97, 0, none⟩) 3 3)).add j) vv := fun j vv hj => by
    obtain ⟨us, h1, _, h2⟩ := r97.at_ j vv hj
    rw [Nat.mul_one] at h2
    rw [h1] at h2
    exact h2.1
  match i, hi with
  | 0, _ => exact ⟨b73, _, rfl, g 0 _ rfl, p73⟩
  | 1, _ => exact ⟨b86, _, rfl, g 1 _ rfl, p86⟩
  | 2, _ => exact ⟨b96, _, rfl, g 2 _ rfl, p96⟩
theorem pr_mem (F : Heap) (k pk pf pv f v k2 pk2 pf2 pv2 f2 v2 k3 pk3 pf3 pv3 f3 v3 ck cf cv : Int) (pl pl2 pl3 cl : List Pd.T) (l l2 l3 : List Po.T) (a1 u1 a2 u2 a3 u3 cu : Value) (b55 b58 b62 b66 b71 b73 b77 b82 b84 b86 b90 b94 b96 b97 : Nat) (B1 B2 B3 B4 B5 B6 B7 B8 B9 B10 B11 : Blk) :
    MemFits [hpB F, B1, B2, B3, B4, B5, B6, B7, B8, B9, (⟨.slice (some ⟨b55, 0, none⟩) 2 2, [.int .i64 1, .int .i64 ck, .int .i64 cf, .int .i64 cv, .hs cu cl.length, .int .i64 0, .int .i64 0, .raw (.slice none 0 0), .int .i64 k, .int .i64 pk, .int .i64 pf, .int .i64 pv, .hs a1 pl.length, .int .i64 f, .int .i64 v, .hs u1 l.length], 38, 8, 2⟩ : OwnR).blk, B10, (⟨.slice (some ⟨b58, 0, none⟩) 1 1, [.int .i64 ck, .int .i64 cf, .int .i64 cv, .hs cu cl.length], 35, 4, 1⟩ : OwnR).blk, (⟨.slice (some ⟨b62, 0, none⟩) 2 2, [.int .i64 1, .int .i64 4, .int .i64 0, .int .i64 0, .sl 12 (.slice (some ⟨b58, 0, none⟩) 1 1) 1, .int .i64 0, .int .i64 0, .raw (.slice none 0 0), .int .i64 k2, .int .i64 pk2, .int .i64 pf2, .int .i64 pv2, .hs a2 pl2.length, .int .i64 f2, .int .i64 v2, .hs u2 l2.length], 38, 8, 2⟩ : OwnR).blk, B11, (⟨.slice (some ⟨b66, 0, none⟩) 2 2, [.int .i64 k, .int .i64 pk, .int .i64 pf, .int .i64 pv, .hs a1 pl.length, .int .i64 f, .int .i64 v, .hs u1 l.length, .int .i64 k2, .int .i64 pk2, .int .i64 pf2, .int .i64 pv2, .hs a2 pl2.length, .int .i64 f2, .int .i64 v2, .hs u2 l2.length], 38, 8, 2⟩ : OwnR).blk, (⟨.slice (some ⟨b71, 0, none⟩) 3 3, [.int .i64 k2, .int .i64 pk2, .int .i64 pf2, .int .i64 pv2, .hs a2 pl2.length, .int .i64 f2, .int .i64 v2, .hs u2 l2.length, .int .i64 k, .int .i64 pk, .int .i64 pf, .int .i64 pv, .hs a1 pl.length, .int .i64 f, .int .i64 v, .hs u1 l.length, .int .i64 k2, .int .i64 pk2, .int .i64 pf2, .int .i64 pv2, .hs a2 pl2.length, .int .i64 f2, .int .i64 v2, .hs u2 l2.length], 38, 8, 3⟩ : OwnR).blk, (⟨.slice (some ⟨b73, 0, none⟩) 2 2, [.int .i64 4, .int .i64 0, .int .i64 0, .int .i64 0, .raw (.slice none 0 0), .int .i64 0, .int .i64 0, .sl 15 (.slice (some ⟨b66, 0, none⟩) 2 2) 2, .int .i64 4, .int .i64 0, .int .i64 0, .int .i64 0, .raw (.slice none 0 0), .int .i64 0, .int .i64 0, .sl 16 (.slice (some ⟨b71, 0, none⟩) 3 3) 3], 38, 8, 2⟩ : OwnR).blk, (⟨.slice (some ⟨b77, 0, none⟩) 3 3, [.int .i64 k, .int .i64 pk, .int .i64 pf, .int .i64 pv, .hs a1 pl.length, .int .i64 f, .int .i64 v, .hs u1 l.length, .int .i64 k2, .int .i64 pk2, .int .i64 pf2, .int .i64 pv2, .hs a2 pl2.length, .int .i64 f2, .int .i64 v2, .hs u2 l2.length, .int .i64 k3, .int .i64 pk3, .int .i64 pf3, .int .i64 pv3, .hs a3 pl3.length, .int .i64 f3, .int .i64 v3, .hs u3 l3.length], 38, 8, 3⟩ : OwnR).blk, (⟨.slice (some ⟨b82, 0, none⟩) 2 2, [.int .i64 k2, .int .i64 pk2, .int .i64 pf2, .int .i64 pv2, .hs a2 pl2.length, .int .i64 f2, .int .i64 v2, .hs u2 l2.length, .int .i64 k3, .int .i64 pk3, .int .i64 pf3, .int .i64 pv3, .hs a3 pl3.length, .int .i64 f3, .int .i64 v3, .hs u3 l3.length], 38, 8, 2⟩ : OwnR).blk, (⟨.slice (some ⟨b84, 0, none⟩) 2 2, [.int .i64 k, .int .i64 pk, .int .i64 pf, .int .i64 pv, .hs a1 pl.length, .int .i64 f, .int .i64 v, .hs u1 l.length, .int .i64 3, .int .i64 0, .int .i64 0, .int .i64 0, .raw (.slice none 0 0), .int .i64 0, .int .i64 0, .sl 19 (.slice (some ⟨b82, 0, none⟩) 2 2) 2], 38, 8, 2⟩ : OwnR).blk, (⟨.slice (some ⟨b86, 0, none⟩) 2 2, [.int .i64 3, .int .i64 0, .int .i64 0, .int .i64 0, .raw (.slice none 0 0), .int .i64 0, .int .i64 0, .sl 18 (.slice (some ⟨b77, 0, none⟩) 3 3) 3, .int .i64 3, .int .i64 0, .int .i64 0, .int .i64 0, .raw (.slice none 0 0), .int .i64 0, .int .i64 0, .sl 20 (.slice (some ⟨b84, 0, none⟩) 2 2) 2], 38, 8, 2⟩ : OwnR).blk, (⟨.slice (some ⟨b90, 0, none⟩) 2 2, [.int .i64 k, .int .i64 pk, .int .i64 pf, .int .i64 pv, .hs a1 pl.length, .int .i64 f, .int .i64 v, .hs u1 l.length, .int .i64 k2, .int .i64 pk2, .int .i64 pf2, .int .i64 pv2, .hs a2 pl2.length, .int .i64 f2, .int .i64 v2, .hs u2 l2.length], 38, 8, 2⟩ : OwnR).blk, (⟨.slice (some ⟨b94, 0, none⟩) 2 2, [.int .i64 3, .int .i64 0, .int .i64 0, .int .i64 0, .raw (.slice none 0 0), .int .i64 0, .int .i64 0, .sl 10 (.slice (some ⟨b55, 0, none⟩) 2 2) 2, .int .i64 3, .int .i64 0, .int .i64 0, .int .i64 0, .raw (.slice none 0 0), .int .i64 0, .int .i64 0, .sl 13 (.slice (some ⟨b62, 0, none⟩) 2 2) 2], 38, 8, 2⟩ : OwnR).blk, (⟨.slice (some ⟨b96, 0, none⟩) 2 2, [.int .i64 5, .int .i64 ck, .int .i64 cf, .int .i64 cv, .hs cu cl.length, .int .i64 0, .int .i64 0, .sl 22 (.slice (some ⟨b90, 0, none⟩) 2 2) 2, .int .i64 4, .int .i64 0, .int .i64 0, .int .i64 0, .raw (.slice none 0 0), .int .i64 0, .int .i64 0, .sl 23 (.slice (some ⟨b94, 0, none⟩) 2 2) 2], 38, 8, 2⟩ : OwnR).blk, (⟨.slice (some ⟨b97, 0, none⟩) 3 3, [.sl 17 (.slice (some ⟨b73, 0, none⟩) 2 2) 2, .sl 21 (.slice (some ⟨b86, 0, none⟩) 2 2) 2, .sl 24 (.slice (some ⟨b96, 0, none⟩) 2 2) 2], 36, 1, 3⟩ : OwnR).blk] [hpB (addLs F (prLits k pk pf pv f v k2 pk2 pf2 pv2 f2 v2 k3 pk3 pf3 pv3 f3 v3 ck cf cv pl pl2 pl3 cl l l2 l3 a1 u1 a2 u2 a3 u3 cu b55 b58 b62 b66 b71 b73 b77 b82 b84 b86 b90 b94 b96 b97)), B1, B2, B3, B4, B5, B6, B7, B8, B9, hpB (addLs F (prLits k pk pf pv f v k2 pk2 pf2 pv2 f2 v2 k3 pk3 pf3 pv3 f3 v3 ck cf cv pl pl2 pl3 cl l l2 l3 a1 u1 a2 u2 a3 u3 cu b55 b58 b62 b66 b71 b73 b77 b82 b84 b86 b90 b94 b96 b97)), B10, hpB noHeap, hpB noHeap, B11, hpB noHeap, hpB noHeap, hpB noHeap, hpB noHeap, hpB noHeap, hpB noHeap, hpB noHeap, hpB noHeap, hpB noHeap, hpB noHeap, hpB noHeap] :=
  ((MemFits.pick (m' := hpB F :: ((prLits k pk pf pv f v k2 pk2 pf2 pv2 f2 v2 k3 pk3 pf3 pv3 f3 v3 ck cf cv pl pl2 pl3 cl l l2 l3 a1 u1 a2 u2 a3 u3 cu b55 b58 b62 b66 b71 b73 b77 b82 b84 b86 b90 b94 b96 b97).map OwnR.blk ++ [B1, B2, B3, B4, B5, B6, B7, B8, B9, B10, B11])) [0, 10, 12, 13, 15, 16, 17, 18, 19, 20, 21, 22, 23, 24, 25, 1, 2, 3, 4, 5, 6, 7, 8, 9, 11, 14] (by decide) rfl).trans ((MemFits.frzL _).trans (MemFits.dup (Heap.le_refl _) _))).trans
    (((((MemFits.noHeap _).trans ((MemFits.noHeap _).trans (MemFits.noHeap _))).trans ((MemFits.noHeap _).trans ((MemFits.noHeap _).trans (MemFits.noHeap _)))).trans (((MemFits.noHeap _).trans ((MemFits.noHeap _).trans (MemFits.noHeap _))).trans (((MemFits.noHeap _).trans (MemFits.noHeap _)).trans ((MemFits.noHeap _).trans (MemFits.noHeap _))))).trans (MemFits.pick [13, 15, 16, 17, 18, 19, 20, 21, 22, 23, 14, 24, 0, 1, 25, 2, 3, 4, 5, 6, 7, 8, 9, 10, 11, 12] (by decide) rfl))
/-- How far the three calls, and the three variables, are. -/
abbrev PrSt := Nat × (Bool × Bool × Bool) × Heap × (Value × Value) × (Value × Value) × (Value × Value) × (Nat × Nat × Nat)
def prDone : PrSt → List Nat := fun (c, (s1, s2, s3), _) => if c = 0 ∧ s1 = false ∧ s2 = false ∧ s3 = false then [] else [0, 2, 4] ++ [1, 3, 5].take c ++ (if s1 = true then [6] else []) ++ (if s2 = true then [7] else []) ++ (if s3 = true then [8] else [])
def prLeft : PrSt → Nat := fun (c, (s1, s2, s3), _) => if c = 0 ∧ s1 = false ∧ s2 = false ∧ s3 = false then 12 else 9 - c - s1.toNat - s2.toNat - s3.toNat
theorem punion27_c (F : Heap) (hT : TabF F) (x y z : Po.T) (cc : Pd.T) (pu u pv' w pw t cu : Value) (sw : Int) (s : Po.S) (hs1 : Po.tot x ≤ 1000000000) (hs2 : Po.tot y ≤ 1000000000) (hs3 : Po.tot z ≤ 1000000000) (hs4 : Pd.size cc ≤ 1000000000) (hx : Po.At F x pu u) (hy : Po.At F y pv' w) (hz : Po.At F z pw t) (hc : Pd.Row F cu cc.l) :
    NCall Tryz.prog 3 [.agg (Po.cs x pu u), .agg (Po.cs y pv' w), .agg (Po.cs z pw t), .agg (Pd.cs cc cu), .int .i64 sw, .int .i64 s.port, .agg [.int .i64 s.p0, .int .i64 s.p1, .int .i64 s.p2, .int .i64 s.p3]] [hpB F] fun r _ => r = .bool true := by
  have hok1 := hx.l.ok
  have hpok1 := hx.p.ok
  have hok2 := hy.l.ok
  have hpok2 := hy.p.ok
  have hok3 := hz.l.ok
  have hpok3 := hz.p.ok
  have hok4 := hc.ok
  have cw := fun G (h : F.le G) => awake27_c G (hT.mono h)
  have cR1 := refright27_c F x pu u (by omega) hx
  have cR2 := refright27_c F y pv' w (by omega) hy
  have cR3 := refright27_c F z pw t (by omega) hz
  have cR4 := refright26_c F cc cu (by omega) hc
  have cm1 := fun G (h : F.le G) => mine27_c _ G x pu u (Nat.le_refl _) (by omega) (Po.At.mono h hx)
  have cm2 := fun G (h : F.le G) => mine27_c _ G y pv' w (Nat.le_refl _) (by omega) (Po.At.mono h hy)
  have cm3 := fun G (h : F.le G) => mine27_c _ G z pw t (Nat.le_refl _) (by omega) (Po.At.mono h hz)
  have cm4 := fun G (h : F.le G) => mine26_c _ G cc cu (Nat.le_refl _) (by omega) (Pd.Row.mono h hc)
  have hlaw := fun (i : Nat) (r : Po.T × Po.T) h => Po.prs_law sw x y z cc s (i := i) (r := r) h
  have htt := fun (i : Nat) (r : Po.T × Po.T) h => Po.prs_tot (x := x) (y := y) (z := z) (c := cc) (i := i) (r := r) h
  generalize Po.right x = r1 at *
  generalize Po.right y = r2 at *
  generalize Po.right z = r3 at *
  generalize Pd.right cc = r4 at *
  clear hx hy hz hc
  have cw0 := cw F F.le_refl
  have hbig : ∀ (i : Nat) (r : Po.T × Po.T), (Po.prs x y z cc)[i]? = some r → Po.tot r.1 ≤ 17000000000 ∧ Po.tot r.2 ≤ 17000000000 := fun i r h => by
    have := htt i r h
    omega
  clear htt hs1 hs2 hs3 hs4
  obtain ⟨k, ⟨pk, pf, pv, pl⟩, f, v, l⟩ := x
  obtain ⟨k2, ⟨pk2, pf2, pv2, pl2⟩, f2, v2, l2⟩ := y
  obtain ⟨k3, ⟨pk3, pf3, pv3, pl3⟩, f3, v3, l3⟩ := z
  obtain ⟨ck, cf, cv, cl⟩ := cc
  obtain ⟨port, p0, p1, p2, p3⟩ := s
  simp only [po_cs, pd_cs, Po.Lays, Pd.Lays, Po.T.l, Po.T.p, Pd.T.k, Pd.T.f, Pd.T.v, Pd.T.l] at *
  refine ncall_of Tryz.func3 rfl (by decide) ?_
  by_cases hr : r1 = true ∧ r2 = true ∧ r3 = true ∧ r4 = true
  rotate_left
  · cases r1 <;> cases r2 <;> cases r3 <;> cases r4
    all_goals first
      | (exfalso; exact hr ⟨rfl, rfl, rfl, rfl⟩)
      | skip
    all_goals (repeat' first|(intro K hK;(with_reducible refine gC ?_);first|refine Go.Sx.cS [0] cR1 ?_|refine Go.Sx.cS [0] cR2 ?_|refine Go.Sx.cS [0] cR3 ?_|refine Go.Sx.cS [0] cR4 ?_|refine Go.Sx.cS [0] cw0 ?_)|(refine sxZ ?_;try clear hK K)|refine sxW ?_ ?_<;>intro _|(intro K hK _;(conv=>whnf)))
    all_goals rfl
  obtain ⟨rfl, rfl, rfl, rfl⟩ := hr
  (repeat' (first|(with_reducible first|(refine hK _ _ ?_;clear hK K)|(refine hA ?_;clear hA hB A B)|(refine hB ?_;clear hA hB A B)|(refine hK _ ?_;clear hK K))|((first|((with_reducible refine gC ?_);(first|(refine cE [0] (cR1) rfl rfl ?_)|(refine cE [0] (cR2) rfl rfl ?_)|(refine cE [0] (cR3) rfl rfl ?_)|(refine cE [0] (cR4) rfl rfl ?_))))<;>(conv=>whnf))|(refine sxEA ?_)|(refine sxSA ?_)|(refine sxIA ?_;intro K hK;(conv=>whnf))|(refine sxCA ?_;intro A B hA hB;(conv=>whnf))|((with_reducible first|refine NIf.dec (fun _=>?_) (fun _=>?_)|refine NIf.both (fun _=>?_) (fun _=>?_))<;>(conv=>whnf))|((intro _;skip)<;>(conv=>whnf))))
  refine st_drawCut (α := Heap × (Value × Value) × (Value × Value) × (Value × Value) × (Nat × Nat × Nat)) (fun (G, (a1, u1), (a2, u2), (a3, u3), (b1, b2, b3)) => F.le G ∧ Po.At G (.mk k (.mk pk pf pv pl) f v l) a1 u1 ∧ Po.At G (.mk k2 (.mk pk2 pf2 pv2 pl2) f2 v2 l2) a2 u2 ∧ Po.At G (.mk k3 (.mk pk3 pf3 pv3 pl3) f3 v3 l3) a3 u3)
    (fun (G, (a1, u1), (a2, u2), (a3, u3), (b1, b2, b3)) => (((List.replicate 139 .keep).set 15 (.set (.ptr 6 ⟨b1, 0, none⟩ 0))).set 16 (.set (.ptr 7 ⟨b2, 0, none⟩ 0))).set 17 (.set (.ptr 8 ⟨b3, 0, none⟩ 0)))
    (fun (G, (a1, u1), (a2, u2), (a3, u3), (b1, b2, b3)) => [.set (hpB G), .keep, .keep, .keep, .keep, .keep, .set ⟨⟨b1, 0, none⟩, [.int .i64 k, .int .i64 pk, .int .i64 pf, .int .i64 pv, .hs a1 pl.length, .int .i64 f, .int .i64 v, .hs u1 l.length], .var 38⟩, .set ⟨⟨b2, 0, none⟩, [.int .i64 k2, .int .i64 pk2, .int .i64 pf2, .int .i64 pv2, .hs a2 pl2.length, .int .i64 f2, .int .i64 v2, .hs u2 l2.length], .var 38⟩, .set ⟨⟨b3, 0, none⟩, [.int .i64 k3, .int .i64 pk3, .int .i64 pf3, .int .i64 pv3, .hs a3 pl3.length, .int .i64 f3, .int .i64 v3, .hs u3 l3.length], .var 38⟩]) ?_ ?_
  · refine st_orderS [0] rfl rfl (by kernel_rfl) _ rfl ?_
    refine st_ordSout ?_
    refine ordK_memo (α := PrSt) prDone prLeft (fun (c, (s1, s2, s3), G, (a1, u1), (a2, u2), (a3, u3), (b1, b2, b3)) => c ≤ 3 ∧ F.le G ∧ (1 ≤ c → Po.At G (.mk k (.mk pk pf pv pl) f v l) a1 u1) ∧ (2 ≤ c → Po.At G (.mk k2 (.mk pk2 pf2 pv2 pl2) f2 v2 l2) a2 u2) ∧ (3 ≤ c → Po.At G (.mk k3 (.mk pk3 pf3 pv3 pl3) f3 v3 l3) a3 u3))
      (fun (c, (s1, s2, s3), G, (a1, u1), (a2, u2), (a3, u3), (b1, b2, b3)) => ((((((((((List.replicate 139 .keep).set 44 (if c = 0 ∧ s1 = false ∧ s2 = false ∧ s3 = false then .keep else .set (.agg [.int .i64 k, .int .i64 pk, .int .i64 pf, .int .i64 pv, .hs pu pl.length, .int .i64 f, .int .i64 v, .hs u l.length]))).set 46 (if c = 0 ∧ s1 = false ∧ s2 = false ∧ s3 = false then .keep else .set (.agg [.int .i64 k2, .int .i64 pk2, .int .i64 pf2, .int .i64 pv2, .hs pv' pl2.length, .int .i64 f2, .int .i64 v2, .hs w l2.length]))).set 48 (if c = 0 ∧ s1 = false ∧ s2 = false ∧ s3 = false then .keep else .set (.agg [.int .i64 k3, .int .i64 pk3, .int .i64 pf3, .int .i64 pv3, .hs pw pl3.length, .int .i64 f3, .int .i64 v3, .hs t l3.length]))).set 45 (if 1 ≤ c then .set (.agg [.int .i64 k, .int .i64 pk, .int .i64 pf, .int .i64 pv, .hs a1 pl.length, .int .i64 f, .int .i64 v, .hs u1 l.length]) else .keep)).set 47 (if 2 ≤ c then .set (.agg [.int .i64 k2, .int .i64 pk2, .int .i64 pf2, .int .i64 pv2, .hs a2 pl2.length, .int .i64 f2, .int .i64 v2, .hs u2 l2.length]) else .keep)).set 49 (if 3 ≤ c then .set (.agg [.int .i64 k3, .int .i64 pk3, .int .i64 pf3, .int .i64 pv3, .hs a3 pl3.length, .int .i64 f3, .int .i64 v3, .hs u3 l3.length]) else .keep)).set 15 (if s1 = true then .set (.ptr 6 ⟨b1, 0, none⟩ 0) else .keep)).set 16 (if s2 = true then .set (.ptr 7 ⟨b2, 0, none⟩ 0) else .keep)).set 17 (if s3 = true then .set (.ptr 8 ⟨b3, 0, none⟩ 0) else .keep)))
      (fun (c, (s1, s2, s3), G, (a1, u1), (a2, u2), (a3, u3), (b1, b2, b3)) => [.set (hpB G), .keep, .keep, .keep, .keep, .keep, if s1 = true then .set ⟨⟨b1, 0, none⟩, [.int .i64 0, .int .i64 0, .int .i64 0, .int .i64 0, .raw (.slice none 0 0), .int .i64 0, .int .i64 0, .raw (.slice none 0 0)], .var 38⟩ else .set (hpB noHeap), if s2 = true then .set ⟨⟨b2, 0, none⟩, [.int .i64 0, .int .i64 0, .int .i64 0, .int .i64 0, .raw (.slice none 0 0), .int .i64 0, .int .i64 0, .raw (.slice none 0 0)], .var 38⟩ else .set (hpB noHeap), if s3 = true then .set ⟨⟨b3, 0, none⟩, [.int .i64 0, .int .i64 0, .int .i64 0, .int .i64 0, .raw (.slice none 0 0), .int .i64 0, .int .i64 0, .raw (.slice none 0 0)], .var 38⟩ else .set (hpB noHeap)]) ?_ (0, (false, false, false), F, (pu, u), (pv', w), (pw, t), (0, 0, 0)) ⟨Nat.zero_le _, F.le_refl, fun h => absurd h (by decide), fun h => absurd h (by decide), fun h => absurd h (by decide)⟩ rfl rfl ?_ ?_
    rotate_left
    · exact fitsGo
    · exact ((MemFits.noHeap _).trans ((MemFits.noHeap _).trans (MemFits.noHeap _))).trans (MemFits.pick [3, 4, 5, 6, 7, 8, 0, 1, 2] (by decide) rfl)
    · rintro ⟨c, ⟨s1, s2, s3⟩, G, ⟨a1, u1⟩, ⟨a2, u2⟩, ⟨a3, u3⟩, ⟨b1, b2, b3⟩⟩ ⟨hc3, hG, e1, e2, e3⟩ IH

      have I1 := fun (hc : c = 0) (G9 : Heap) (a9 u9 : Value) (hle9 : G.le G9) (h9 : Po.At G9 (.mk k (.mk pk pf pv pl) f v l) a9 u9) => IH (1, (s1, s2, s3), G9, (a9, u9), (a2, u2), (a3, u3), (b1, b2, b3)) ⟨by decide, hG.trans hle9, fun _ => h9, fun h => absurd h (by decide), fun h => absurd h (by decide)⟩
      have I2 := fun (hc : c = 1) (G9 : Heap) (a9 u9 : Value) (hle9 : G.le G9) (h9 : Po.At G9 (.mk k2 (.mk pk2 pf2 pv2 pl2) f2 v2 l2) a9 u9) => IH (2, (s1, s2, s3), G9, (a1, u1), (a9, u9), (a3, u3), (b1, b2, b3)) ⟨by decide, hG.trans hle9, fun _ => Po.At.mono hle9 (e1 (by omega)), fun _ => h9, fun h => absurd h (by decide)⟩
      have I3 := fun (hc : c = 2) (G9 : Heap) (a9 u9 : Value) (hle9 : G.le G9) (h9 : Po.At G9 (.mk k3 (.mk pk3 pf3 pv3 pl3) f3 v3 l3) a9 u9) => IH (3, (s1, s2, s3), G9, (a1, u1), (a2, u2), (a9, u9), (b1, b2, b3)) ⟨by decide, hG.trans hle9, fun _ => Po.At.mono hle9 (e1 (by omega)), fun _ => Po.At.mono hle9 (e2 (by omega)), fun _ => h9⟩
      have A1 := fun (hs : s1 = false) (b9 : Nat) => IH (c, (true, s2, s3), G, (a1, u1), (a2, u2), (a3, u3), (b9, b2, b3)) ⟨hc3, hG, e1, e2, e3⟩
      have A2 := fun (hs : s2 = false) (b9 : Nat) => IH (c, (s1, true, s3), G, (a1, u1), (a2, u2), (a3, u3), (b1, b9, b3)) ⟨hc3, hG, e1, e2, e3⟩
      have A3 := fun (hs : s3 = false) (b9 : Nat) => IH (c, (s1, s2, true), G, (a1, u1), (a2, u2), (a3, u3), (b1, b2, b9)) ⟨hc3, hG, e1, e2, e3⟩
      clear IH
      obtain rfl | rfl | rfl | rfl : c = 0 ∨ c = 1 ∨ c = 2 ∨ c = 3 := by omega
      all_goals
        cases s1 <;> cases s2 <;> cases s3
      all_goals (intro K hK; (conv=>whnf); refine hK _ _ ?_; clear hK K; conv => arg 5; whnf)
      all_goals (repeat' (first|(with_reducible first|(refine hK _ _ ?_;clear hK K)|(refine hA ?_;clear hA hB A B)|(refine hB ?_;clear hA hB A B)|(refine hK _ ?_;clear hK K))|((with_reducible refine gO ?_);(first|((with_reducible first|refine z25 ?_|refine z26 ?_);intro K hK;(conv=>whnf))|(with_reducible first|refine z0 ?_)))|((first|((with_reducible refine gV ?_);(first|((with_reducible first|refine NV.quo ?s ?_|refine NV.rem ?s ?_|refine NV.i64 ?s ?_|refine NV.u32 ?s ?_|refine NV.u8 ?s ?_|refine NV.u64 ?s ?_);case s=>omega)|(with_reducible first|refine NV.divk ?_|refine NV.modk ?_|refine NV.keep ?_)))|((with_reducible refine gI ?_);(first|with_reducible refine NIf.not_ ?_|((with_reducible refine NIf.decY ?s ?_);case s=>first|with_reducible rfl|assumption|omega)|((with_reducible refine NIf.decN ?s ?_);case s=>first|with_reducible rfl|assumption|omega)|((with_reducible refine NIf.yes ?s ?_);case s=>first|rfl|assumption)|((with_reducible refine NIf.no ?s ?_);case s=>first|rfl|assumption)|(with_reducible first|refine NIf.dec (fun _=>?_) (fun _=>?_)|refine NIf.both (fun _=>?_) (fun _=>?_))))|((with_reducible refine gN ?_);(with_reducible first|refine NN.lit ?_|refine NN.cast ?_|refine NN.a1 ?_|refine NN.a2 ?_|refine NN.a3 ?_|refine NN.a4 ?_|refine NN.a5 ?_|refine NN.a6 ?_|refine NN.keep ?_))|((with_reducible refine gH ?_);((with_reducible refine NH.mk ?s ?_);case s=>(and_intros<;>first|with_reducible rfl|((with_reducible refine gOnes ?_);rfl)|((with_reducible refine gLen ?_);rfl)|((with_reducible refine gKept ?_);exact rfl)|omega|assumption|exact Nat.le_of_ble_eq_true rfl|(simp only [List.length_append, List.length_cons, List.length_nil]; omega)|rfl)))|((with_reducible refine gC ?_);(first|(refine cM [0] (cm1 _ hG) rfl rfl ?_; rintro _ _ ⟨G9, a9, u9, hle9, h9, rfl, rfl⟩; refine ⟨rfl, _, rfl, ?_⟩)|(refine cM [0] (cm2 _ hG) rfl rfl ?_; rintro _ _ ⟨G9, a9, u9, hle9, h9, rfl, rfl⟩; refine ⟨rfl, _, rfl, ?_⟩)|(refine cM [0] (cm3 _ hG) rfl rfl ?_; rintro _ _ ⟨G9, a9, u9, hle9, h9, rfl, rfl⟩; refine ⟨rfl, _, rfl, ?_⟩)))|(with_reducible refine NS.keep ?_)|(with_reducible refine NLd.of (by with_reducible assumption) ?_))<;>(conv=>whnf))|((with_reducible refine gNOK ?_);((first | exact I1 rfl _ _ _ hle9 h9 (Nat.le_of_ble_eq_true rfl) _ _ _ (by exact rfl) fitsGo (MemFits.eq rfl) | exact I2 rfl _ _ _ hle9 h9 (Nat.le_of_ble_eq_true rfl) _ _ _ (by exact rfl) fitsGo (MemFits.eq rfl) | exact I3 rfl _ _ _ hle9 h9 (Nat.le_of_ble_eq_true rfl) _ _ _ (by exact rfl) fitsGo (MemFits.eq rfl) | exact A1 rfl _ (Nat.le_of_ble_eq_true rfl) _ _ _ (by exact rfl) fitsGo (MemFits.pick [0, 1, 2, 3, 4, 5, 9, 7, 8] (by decide) rfl) | exact A2 rfl _ (Nat.le_of_ble_eq_true rfl) _ _ _ (by exact rfl) fitsGo (MemFits.pick [0, 1, 2, 3, 4, 5, 6, 9, 8] (by decide) rfl) | exact A3 rfl _ (Nat.le_of_ble_eq_true rfl) _ _ _ (by exact rfl) fitsGo (MemFits.pick [0, 1, 2, 3, 4, 5, 6, 7, 9] (by decide) rfl))))|((with_reducible refine gNRK ?_);(first|((with_reducible refine st_ordS1 ?s1 ?s2 ?s3 ?_); (case s1 => kernel_rfl); (case s2 => kernel_rfl); (case s3 => exact rfl); intro K hK; (conv=>whnf))|((with_reducible refine st_ordS1g ?s1 ?s2 ?s3 ?_); (case s1 => kernel_rfl); (case s2 => kernel_rfl); (case s3 => exact rfl); intro K hK; (conv=>whnf))|((with_reducible refine st_ordS2 ?s2 ?_); (case s2 => kernel_rfl); intro K hK; (conv=>whnf))|((with_reducible refine st_ordS2g ?s2 ?s3 ?_); (case s2 => kernel_rfl); (case s3 => exact rfl); intro K hK; (conv=>whnf))|((with_reducible refine st_ordS0 ?s2 ?_); (case s2 => kernel_rfl))|(with_reducible refine st_ordSout ?_)))|((with_reducible refine gNOK ?_);(first|(refine st_ordK1 rfl (by kernel_rfl) rfl ?_; intro K hK; (conv=>whnf))|(refine st_ordK1g rfl (by kernel_rfl) rfl ?_; intro K hK; (conv=>whnf))|(refine st_ordK0 rfl (by kernel_rfl) ?_)|(refine st_ordKA rfl rfl (by kernel_rfl) (by intro h; cases h) ?_)))|((with_reducible refine gNEK ?_);(first|(refine st_eachK ?_ ?_; (intro K hK; (conv=>whnf)))|(refine st_eachKg rfl ?_ ?_; (intro K hK; (conv=>whnf)))|exact st_eachK0))|((with_reducible refine gX ?_);(first|(refine st_orderS [0] rfl rfl (by kernel_rfl) _ rfl ?_)|(with_reducible first|refine z3 ?_|refine z4 ?_|refine z5 ?_|refine z6 ?_|refine z7 ?_|refine z8 ?_|refine z14 ?_|refine z15 ?_)|((with_reducible refine z29 ?_);intro A B hA hB;(conv=>whnf))))|(with_reducible first|refine z1 ?_|refine z2 ?_|refine z9 ?_|refine z10 ?_|refine z11 ?_|refine z12 ?_|refine z13 ?_|refine z16 ?_|refine z17 ?_|refine z18 ?_|refine z19 ?_|refine z20 ?_|refine z21 ?_|refine z22 ?_|refine z23 ?_)|((with_reducible refine gB ?_);(refine z30 (by decide) ?_))|((with_reducible refine gR ?_);((first|refine z31 rfl ?_|refine z32 rfl ?_);intro K hK;(conv=>whnf)))|((with_reducible refine gF ?_);((refine z33 rfl ?_);intro K hK;(conv=>whnf)))|((refine NFlat_iff.2 ⟨⟨?s1,?s2⟩,?_⟩;(case s1=>decide +kernel);(case s2=>decide +kernel))<;>(conv=>whnf))|((intro _;skip)<;>(conv=>whnf))))
      all_goals
        refine cut_done (G, (a1, u1), (a2, u2), (a3, u3), (b1, b2, b3)) ⟨hG, e1 (by decide), e2 (by decide), e3 (by decide)⟩ ?_ (MemFits.eq rfl)
        exact fitsGo
  (intro ⟨G, ⟨a1, u1⟩, ⟨a2, u2⟩, ⟨a3, u3⟩, ⟨b1, b2, b3⟩⟩ ⟨hG, hA, hB, hD⟩; intro K hK; (conv=>whnf); refine hK _ _ ?_; clear hK K)

  have cm4 := cm4 G hG
  clear cm1 cm2 cm3 cR1 cR2 cR3 cR4 cw0
  repeat' first|(intro K hK;(with_reducible refine gC ?_);(refine Go.Sx.cN [0] cm4 ?_;rintro _ _ ⟨G1, cu1, hle1, hC, rfl, rfl⟩;refine Go.Sx.cR ?_))|(refine sxZ ?_;try clear hK K)|refine sxW ?_ ?_<;>intro _|(intro K hK _;(conv=>whnf))
  rename_i b18 b55 b19 b58 b62 b20 b66 b71 b73 b77 b82 b84 b86 b90 b94 b96 b97
  have hrow := pr_rows G1 k pk pf pv f v k2 pk2 pf2 pv2 f2 v2 k3 pk3 pf3 pv3 f3 v3 ck cf cv pl pl2 pl3 cl l l2 l3 a1 u1 a2 u2 a3 u3 cu1 b55 b58 b62 b66 b71 b73 b77 b82 b84 b86 b90 b94 b96 b97 (Po.At.mono hle1 hA) (Po.At.mono hle1 hB) (Po.At.mono hle1 hD) hC
  have hmem := pr_mem G1 k pk pf pv f v k2 pk2 pf2 pv2 f2 v2 k3 pk3 pf3 pv3 f3 v3 ck cf cv pl pl2 pl3 cl l l2 l3 a1 u1 a2 u2 a3 u3 cu1 b55 b58 b62 b66 b71 b73 b77 b82 b84 b86 b90 b94 b96 b97
  have hF3 : G1.le (addLs G1 (prLits k pk pf pv f v k2 pk2 pf2 pv2 f2 v2 k3 pk3 pf3 pv3 f3 v3 ck cf cv pl pl2 pl3 cl l l2 l3 a1 u1 a2 u2 a3 u3 cu1 b55 b58 b62 b66 b71 b73 b77 b82 b84 b86 b90 b94 b96 b97)) := addLs.old
  generalize addLs G1 (prLits k pk pf pv f v k2 pk2 pf2 pv2 f2 v2 k3 pk3 pf3 pv3 f3 v3 ck cf cv pl pl2 pl3 cl l l2 l3 a1 u1 a2 u2 a3 u3 cu1 b55 b58 b62 b66 b71 b73 b77 b82 b84 b86 b90 b94 b96 b97) = F3 at *
  have hok97 : SlOk (.slice (some ⟨b97, 0, none⟩) 3 3) 3 := ⟨_, _, rfl, Nat.le_refl _, fun h => by cases h⟩
  have hFG := (hG.trans hle1).trans hF3
  clear hA hB hD hC cm4
  refine st_auto (α := Heap × Nat) (fun (H, i) => F3.le H ∧ i ≤ 3) (fun (H, i) => [.keep, .keep, .keep, .keep, .keep, .keep, .keep, .keep, .keep, .keep, .keep, .keep, .keep, .keep, .drop, .keep, .keep, .keep, .keep, .keep, .keep, .set (.hs (.slice (some ⟨b97, 0, none⟩) 3 3) 3), .set (.int .i64 i), .drop, .drop, .keep, .keep, .keep, .keep, .keep, .keep, .keep, .keep, .keep, .keep, .keep, .keep, .keep, .keep, .keep, .keep, .keep, .keep, .keep, .keep, .keep, .keep, .keep, .keep, .keep, .keep, .keep, .keep, .keep, .keep, .keep, .keep, .keep, .keep, .keep, .keep, .keep, .keep, .keep, .keep, .keep, .keep, .keep, .keep, .keep, .keep, .keep, .keep, .keep, .keep, .keep, .keep, .keep, .keep, .keep, .keep, .keep, .keep, .keep, .keep, .keep, .keep, .keep, .keep, .keep, .keep, .keep, .keep, .keep, .keep, .keep, .keep, .keep, .drop, .drop, .drop, .drop, .drop, .drop, .drop, .drop, .drop, .drop, .drop, .drop, .drop, .drop, .drop, .drop, .drop, .drop, .drop, .drop, .drop, .drop, .drop, .drop, .drop, .drop, .drop, .drop, .drop, .drop, .drop, .drop, .drop, .drop, .drop, .drop, .drop, .drop, .drop, .drop, .keep]) (fun (H, i) => [.set (hpB F3), .keep, .keep, .keep, .keep, .keep, .keep, .keep, .keep, .keep, .set (hpB H), .keep, .set (hpB noHeap), .set (hpB noHeap), .keep, .set (hpB noHeap), .set (hpB noHeap), .set (hpB noHeap), .set (hpB noHeap), .set (hpB noHeap), .set (hpB noHeap), .set (hpB noHeap), .set (hpB noHeap), .set (hpB noHeap), .set (hpB noHeap), .set (hpB noHeap)]) (fun (H, i) => 3 - i) (F3, 0) ⟨F3.le_refl, Nat.zero_le _⟩ ?_ (hmem _ _ _ _ _ _ _ _ _ _ _) ?_
  · repeat (first | exact FitsSl.nil | refine FitsSl.any ?_ | refine FitsSl.cons (Fit1.slhs (by  rfl)) ?_ | refine FitsSl.cons (Fit1.int (by first | rfl | omega)) ?_ | refine FitsSl.cons (Fit1.bool rfl) ?_ | refine FitsSl.cons (Fit1.str rfl) ?_ | refine FitsSl.cons (Fit1.same (by intro h; cases h) (by with_reducible rfl)) ?_ | refine FitsSl.cons Fit1.nil_sl ?_ | refine FitsSl.cons (Fit1.hs rfl) ?_ | refine FitsSl.cons (Fit1.hp rfl rfl) ?_ | refine FitsSl.cons (Fit1.sl rfl) ?_ | refine FitsSl.cons (Fit1.ptr rfl rfl) ?_ | refine FitsSl.cons Fit1.raw ?_)
  (intro ⟨H, i⟩ ⟨hle3, hi⟩; intro K hK; (conv=>whnf); refine hK _ _ ?_; clear hK K)
  dsimp only
  by_cases hlt : i < 3
  · obtain ⟨b, ⟨r, q⟩, hr, hld, hP⟩ := hrow i hlt
    have hl := hlaw i _ hr
    obtain ⟨hb1, hb2⟩ := hbig i _ hr
    dsimp only at hP hl hb1 hb2
    obtain ⟨pA, pcap, A, cap, hA1, c0, c1, c2, c3, c4, c5, c6, c7⟩ := hP.get (i := 0) rfl
    obtain ⟨qA, qcap, B, bap, hA2, d0, d1, d2, d3, d4, d5, d6, d7⟩ := hP.get (i := 1) rfl
    have hok2 : SlOk (.slice (some ⟨b, 0, none⟩) 2 2) 2 := hP.ok
    have ok1 := hA1.l.ok
    have ok2 := hA1.p.ok
    have ok3 := hA2.l.ok
    have ok4 := hA2.p.ok
    have cT1 := theirs27_c _ H r _ _ (Nat.le_refl _) (by omega) (Po.At.mono hle3 hA1)
    have cT2 := fun G' (h : H.le G') => theirs27_c _ G' q _ _ (Nat.le_refl _) (by omega) (Po.At.mono (hle3.trans h) hA2)
    have cQ1 := fun G' a' b' (h : Po.At G' r a' b') => refright27_c G' r a' b' (by omega) h
    have cQ2 := fun G' a' b' (h : Po.At G' q a' b') => refright27_c G' q a' b' (by omega) h
    clear hrow hr hlaw hbig hmem
    by_cases hr1 : Po.right r = true
    rotate_left
    · have hr1 : Po.right r = false := by simpa using hr1
      rw [hr1] at cQ1
      clear hl hP hA1 hA2 hb1 hb2 cT2 cQ2
      obtain ⟨rk, ⟨rpk, rpf, rpv, rpl⟩, rf, rv, rl⟩ := r
      obtain ⟨qk, ⟨qpk, qpf, qpv, qpl⟩, qf, qv, ql⟩ := q
      simp only [Po.cs, Po.Lays, Po.T.k, Po.T.p, Po.T.f, Po.T.v, Po.T.l, Pd.T.k, Pd.T.f, Pd.T.v, Pd.T.l] at *
      repeat' first|(intro K hK;(with_reducible refine gC ?_);first|(refine Go.Sx.cN [10] cT1 ?_;rintro _ _ ⟨G4, a4, u4, hle4, hat4, rfl, rfl⟩;refine Go.Sx.cR ?_)|refine Go.Sx.cS [10] (cQ1 G4 a4 u4 hat4) ?_)|(refine sxZK [10] ?_;try clear hK K)|refine sxW ?_ ?_<;>intro _|refine sxVK ?_ ?_|(intro K hK _;(conv=>whnf))
      all_goals first | (exfalso; omega) | skip
      all_goals
        refine st_round (G4, i + 1) ⟨hle3.trans hle4, hlt⟩ (by show 3 - (i + 1) < 3 - i; omega) ?_ (MemFits.pre 26 rfl)
        exact fitsGo
    rw [hr1] at cQ1
    by_cases hr2 : Po.right q = true
    rotate_left
    · have hr2 : Po.right q = false := by simpa using hr2
      rw [hr2] at cQ2
      clear hl hP hA1 hA2 hb1 hb2
      obtain ⟨rk, ⟨rpk, rpf, rpv, rpl⟩, rf, rv, rl⟩ := r
      obtain ⟨qk, ⟨qpk, qpf, qpv, qpl⟩, qf, qv, ql⟩ := q
      simp only [Po.cs, Po.Lays, Po.T.k, Po.T.p, Po.T.f, Po.T.v, Po.T.l, Pd.T.k, Pd.T.f, Pd.T.v, Pd.T.l] at *
      repeat' first|(intro K hK;(with_reducible refine gC ?_);first|(refine Go.Sx.cN [10] cT1 ?_;rintro _ _ ⟨G4, a4, u4, hle4, hat4, rfl, rfl⟩;refine Go.Sx.cR ?_)|refine Go.Sx.cS [10] (cQ1 G4 a4 u4 hat4) ?_|(refine Go.Sx.cN [10] (cT2 G4 hle4) ?_;rintro _ _ ⟨G5, a5, u5, hle5, hat5, rfl, rfl⟩;refine Go.Sx.cR ?_)|refine Go.Sx.cS [10] (cQ2 G5 a5 u5 hat5) ?_)|(refine sxZK [10] ?_;try clear hK K)|refine sxW ?_ ?_<;>intro _|refine sxVK ?_ ?_|(intro K hK _;(conv=>whnf))
      all_goals first | (exfalso; omega) | skip
      all_goals
        refine st_round (G5, i + 1) ⟨(hle3.trans hle4).trans hle5, hlt⟩ (by show 3 - (i + 1) < 3 - i; omega) ?_ (MemFits.pre 26 rfl)
        exact fitsGo
    rw [hr2] at cQ2
    have h64 := Po.runs_64 sw r hr1 ⟨port, p0, p1, p2, p3⟩
    have cN1 := fun G' (h : F3.le G') => Run27_c G' r _ _ sw ⟨port, p0, p1, p2, p3⟩ (by omega) (Po.right_fits' hr1) (by omega) (Po.At.mono h hA1)
    rw [hl] at cN1 h64
    have cN2 := fun G' (h : F3.le G') => Run27_c G' q _ _ sw ⟨port, p0, p1, p2, p3⟩ (by omega) (Po.right_fits' hr2) (by omega) (Po.At.mono h hA2)
    generalize Po.runs sw q ⟨port, p0, p1, p2, p3⟩ = R at *
    have cS := fun G' z z' (h : Po.SRow G' z R) (h2 : Po.SRow G' z' R) => sent27_c G' z z' R R h h2 (by omega) (by omega)
    rw [show decide (R = R) = true by simp] at cS
    have hRm := fun G' G'' z (h : Heap.le G' G'') (h2 : Po.SRow G' z R) => Po.SRow.mono h h2
    clear hl hP hA1 hA2 hb1 hb2 hr1 hr2
    obtain ⟨rk, ⟨rpk, rpf, rpv, rpl⟩, rf, rv, rl⟩ := r
    obtain ⟨qk, ⟨qpk, qpf, qpv, qpl⟩, qf, qv, ql⟩ := q
    simp only [Po.cs, Po.Lays, Po.T.k, Po.T.p, Po.T.f, Po.T.v, Po.T.l, Pd.T.k, Pd.T.f, Pd.T.v, Pd.T.l] at *
    repeat' first|(intro K hK;(with_reducible refine gC ?_);first|(refine Go.Sx.cN [10] cT1 ?_;rintro _ _ ⟨G4, a4, u4, hle4, hat4, rfl, rfl⟩;refine Go.Sx.cR ?_)|refine Go.Sx.cS [10] (cQ1 G4 a4 u4 hat4) ?_|(refine Go.Sx.cN [10] (cT2 G4 hle4) ?_;rintro _ _ ⟨G5, a5, u5, hle5, hat5, rfl, rfl⟩;refine Go.Sx.cR ?_)|refine Go.Sx.cS [10] (cQ2 G5 a5 u5 hat5) ?_|(refine Go.Sx.cN [10] (cN1 G5 ((hle3.trans hle4).trans hle5)) ?_;rintro _ _ ⟨G6, v6, hle6, hv6, rfl, rfl⟩;refine Go.Sx.cR ?_)|(refine Go.Sx.cN [10] (cN2 G6 (((hle3.trans hle4).trans hle5).trans hle6)) ?_;rintro _ _ ⟨G7, v7, hle7, hv7, rfl, rfl⟩;refine Go.Sx.cR ?_)|refine Go.Sx.cS [10] (cS G7 v6 v7 (hRm _ _ _ hle7 hv6) hv7) ?_)|(refine sxZK [10] ?_;try clear hK K)|refine sxW ?_ ?_<;>intro _|refine sxVK ?_ ?_|(intro K hK _;(conv=>whnf))
    all_goals first | (exfalso; omega) | skip
    all_goals
      refine st_round (G7, i + 1) ⟨(((hle3.trans hle4).trans hle5).trans hle6).trans hle7, hlt⟩ (by show 3 - (i + 1) < 3 - i; omega) ?_ (MemFits.pre 26 rfl)
      exact fitsGo
  · obtain rfl : i = 3 := by omega
    have cw := cw H (hFG.trans hle3)
    clear hrow hmem hlaw hbig
    repeat' first|(intro K hK;(with_reducible refine gC ?_);refine Go.Sx.cS [10] cw ?_)|(refine sxZ ?_;try clear hK K)|refine sxW ?_ ?_<;>intro _|(intro K hK _;(conv=>whnf))
    all_goals first | (exfalso; omega) | rfl
end Go.Proofs.YtngodakgbldlpaaGreatDoor


