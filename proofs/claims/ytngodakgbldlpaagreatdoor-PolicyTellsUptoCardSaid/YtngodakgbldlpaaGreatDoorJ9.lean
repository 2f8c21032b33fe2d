import Derived.Test.YtngodakgbldlpaaGreatDoorJ8
import Derived.Shelf.SlSortCmp.WholeK
import Derived.Test.YtngodakgbldlpaaGreatDoorProg
namespace Go.Proofs.YtngodakgbldlpaaGreatDoor
open Go.Sx
set_option maxRecDepth 20000
set_option linter.unusedSimpArgs false
set_option linter.unusedVariables false
set_option maxHeartbeats 4000000
set_option linter.unusedVariables false
namespace Po
theorem part_row {F : Heap} {b : Nat} {x : S} (h : CellsF F ⟨b, 0, .none⟩ 0 x.vs) : IRow F (.slice (some ((⟨b, 0, .none⟩ : Addr).add 1)) 4 4) [x.p0, x.p1, x.p2, x.p3] := by
  refine ⟨⟨some ((⟨b, 0, .none⟩ : Addr).add 1), 4, rfl, Nat.le_refl _, fun e => by cases e⟩, fun i y hy => ?_⟩
  obtain ⟨_, h1, h2, h3, h4, _⟩ := h
  refine ⟨[.int .i64 y], rfl, rfl, ?_, trivial⟩
  match i, hy with
  | 0, hy => cases hy; exact h1
  | 1, hy => cases hy; exact h2
  | 2, hy => cases hy; exact h3
  | 3, hy => cases hy; exact h4
  | n + 4, hy => simp at hy
end Po
theorem order27_c (x y : Po.S) : NCall Tryz.prog 38 [.agg x.av, .agg y.av] [hpB noHeap] fun r _ => r = .int .i64 (Po.cmpS x y) := by
  refine NCall.fits (K := fun r m => r = .int .i64 (Po.cmpS x y)) ?_ fun r m' h => ⟨r, _, rfl, MemFits.eq rfl, h⟩
  have c0 := compare27_c x.port y.port
  have k1 : ∀ b1 b2 : Nat, NCall Tryz.prog 69 [.raw (.slice (some ((⟨b1, 0, none⟩ : Addr).add 1)) 4 4), .raw (.slice (some ((⟨b2, 0, none⟩ : Addr).add 1)) 4 4)] [hpB noHeap, ⟨⟨b1, 0, none⟩, x.av, .var 63⟩, ⟨⟨b2, 0, none⟩, y.av, .var 63⟩] fun r m => r = .int .i64 (Po.cmpL [x.p0, x.p1, x.p2, x.p3] [y.p0, y.p1, y.p2, y.p3]) ∧ m = [hpB noHeap, ⟨⟨b1, 0, none⟩, x.av, .var 63⟩, ⟨⟨b2, 0, none⟩, y.av, .var 63⟩] := fun b1 b2 =>
    NCall.keep (cmpL_c (addF (addF noHeap ⟨b1, 0, none⟩ (denL x.av)) ⟨b2, 0, none⟩ (denL y.av)) (.slice (some ((⟨b1, 0, none⟩ : Addr).add 1)) 4 4) (.slice (some ((⟨b2, 0, none⟩ : Addr).add 1)) 4 4) [x.p0, x.p1, x.p2, x.p3] [y.p0, y.p1, y.p2, y.p3]
      (RowF.mono addF.old (fun _ _ h => h) (Po.part_row addF.new)) (Po.part_row addF.new) rfl (by simp)) rfl (MemFits.freezeVar.trans MemFits.freezeVar) rfl fun r mL' h => ⟨r, rfl, h.1, rfl⟩
  rw [Po.cmpS_L]
  generalize Po.cmpL [x.p0, x.p1, x.p2, x.p3] [y.p0, y.p1, y.p2, y.p3] = c2 at *
  generalize Po.cmpI x.port y.port = c1 at *
  have co : ∀ b : Nat, NCall Tryz.prog 67 [.sl 0 (.slice (some ⟨b, 0, none⟩) 2 2) 2] [⟨⟨b, 0, none⟩, [.int .i64 c1, .int .i64 c2], .row (.slice (some ⟨b, 0, none⟩) 2 2) 3 1 2⟩] fun r m => r = .int .i64 (if c1 ≠ 0 then c1 else c2) ∧ m = [⟨⟨b, 0, none⟩, [.int .i64 c1, .int .i64 c2], .row (.slice (some ⟨b, 0, none⟩) 2 2) 3 1 2⟩] := fun b => or27_c _ _ c1 c2
  refine ncall_of Tryz.func38 rfl (by decide) ?_
  obtain ⟨a0, a, b, c, d⟩ := x
  obtain ⟨a0', a', b', c', d'⟩ := y
  unfold Po.S.av at *
  simp only at *
  (repeat' (first|(with_reducible first|(refine hK _ _ ?_;clear hK K)|(refine hK _ ?_;clear hK K))|((with_reducible refine gO ?_);(first|((with_reducible refine z25 ?_);intro K hK;(conv=>whnf))|(with_reducible refine z0 ?_)))|((first|(with_reducible refine gN ?_;refine NN.a5 ?_)|((with_reducible refine gH ?_;refine NH.mk ?s ?_);case s=>(and_intros<;>first|((with_reducible refine gLen ?_);rfl)|((with_reducible refine gKept ?_);exact rfl)|omega|rfl))|((with_reducible refine gC ?_);(first|((with_reducible refine NCall.isF 68 ?_);refine NCall.pureE (c0) ?_)|((with_reducible refine NCall.isF 69 ?_);refine NCall.subE [0, 1, 2] (k1 _ _) rfl (by decide) rfl rfl ?_)|((with_reducible refine NCall.isF 67 ?_);refine NCall.subE [3] (co _) rfl (by decide) rfl rfl ?_))))<;>(conv=>whnf))|(with_reducible refine gNRK ?_;refine st_ordSout ?_)|((with_reducible refine gNOK ?_);(first|(refine st_ordK1 rfl (by kernel_rfl) rfl ?_; intro K hK; (conv=>whnf))|(refine st_ordK0 rfl (by kernel_rfl) ?_)|(refine st_ordKA rfl rfl (by kernel_rfl) (by intro h; cases h) ?_)))|((with_reducible refine gNEK ?_);(first|(refine st_eachK ?_ ?_; (intro K hK; (conv=>whnf)))|exact st_eachK0))|((with_reducible refine gX ?_);(first|(refine st_orderS [] rfl rfl (by kernel_rfl) _ rfl ?_)|(with_reducible first|refine z3 ?_|refine z4 ?_|refine z8 ?_)))|(with_reducible first|refine z1 ?_|refine z2 ?_)|((with_reducible refine gR ?_);((refine z31 rfl ?_);intro K hK;(conv=>whnf)))|((with_reducible refine gF ?_);((refine z33 rfl ?_);intro K hK;(conv=>whnf)))|((intro _;skip)<;>(conv=>whnf))))
  all_goals rfl
theorem Fr.grow {w w' : World} (h : Fr (fun _ => False) w w') (hd : w.drawn ≤ w'.drawn) : ∃ (q : Nat) (os : Array Obj), w' = Go.Sort.grow (w.drewN q) os := by
  obtain ⟨hp, tp, dr, os, out⟩ := w
  obtain ⟨hp', tp', dr', os', out'⟩ := w'
  obtain ⟨h1, h2, h3, h4, h5⟩ := h
  simp only at h1 h2 h3 h4 h5 hd
  subst h1 h2 h3
  refine ⟨dr' - dr, hp'.extract hp.size hp'.size, ?_⟩
  have e : hp ++ hp'.extract hp.size hp'.size = hp' := by
    apply Array.ext
    · simp; omega
    · intro i hi hj
      by_cases hlt : i < hp.size
      · rw [Array.getElem_append_left hlt]
        have := h5 i hlt (fun h => h)
        rw [Array.getElem?_eq_getElem hj, Array.getElem?_eq_getElem hlt] at this
        injection this with this
        exact this.symm
      · rw [Array.getElem_append_right (by omega)]
        simp only [Array.getElem_extract]
        congr 1
        omega
  unfold Go.Sort.grow World.drewN
  simp only [World.mk.injEq]
  exact ⟨e.symm, trivial, by omega, trivial, trivial⟩
theorem memOk_none (W : World) : MemOk [hpB noHeap] W := ⟨fun k hk => by
  rw [List.mem_singleton] at hk
  subst hk
  exact ⟨rfl, fun a u h => h.elim, fun b o h => h.elim⟩, by simp⟩
theorem order27_x (x y : Po.S) (W : World) : Calls Tryz.prog 38 #[.agg x.vs.toArray, .agg y.vs.toArray] W fun e w' => e = .returned (.int .i64 (Po.cmpS x y)) ∧ ∃ (q : Nat) (os : Array Obj), w' = Go.Sort.grow (W.drewN q) os := by
  have h := (NCall_iff.1 (order27_c x y)).2 W (memOk_none W)
  have h := Calls_up h fun e w' ⟨r, m', _, he, _⟩ => ⟨_, he⟩
  refine h.mono fun e w' ⟨⟨r, m', hr, he, _, hf, _⟩, hd⟩ => ?_
  subst hr
  refine ⟨he, Fr.grow ⟨hf.os, hf.tape, hf.output, hf.size, fun k hk _ => hf.block k hk fun ⟨k', h1, h2, _⟩ => ?_⟩ hd⟩
  rw [List.mem_singleton] at h1
  subst h1
  cases h2
end Go.Proofs.YtngodakgbldlpaaGreatDoor
namespace Go.Proofs
open Go.Shelf
def Tryz.sortSent_ren : Go.Shelf.Ren := ⟨fun | 6 => 65 | 15 => 79 | 14 => 90 | 28 => 107 | 29 => 108 | 20 => 117 | 21 => 118 | 22 => 119 | 23 => 120 | 24 => 121 | 25 => 122 | 26 => 123 | 27 => 124 | 46 => 140 | 47 => 128 | 48 => 129 | 49 => 141 | 50 => 142 | 57 => 150 | n => n, fun | 22 => 44 | 24 => 63 | 25 => 72 | 3 => 3 | 39 => 107 | 0 => 0 | 53 => 140 | 55 => 142 | 4 => 4 | 46 => 132 | 45 => 131 | 50 => 137 | 5 => 5 | 9 => 9 | 66 => 151 | 70 => 155 | 76 => 167 | 77 => 168 | n => n, fun | n => n⟩
theorem Tryz.sortSent : Go.Proofs.SlLaysF0.n6 Tryz.prog Tryz.sortSent_ren := {
  mixed := by kernel_rfl
  f6 := ⟨Tryz.f65.name, by decide, Tryz.func65.trans (congrArg some (by kernel_rfl))⟩
  f14 := ⟨Tryz.f90.name, by decide, Tryz.func90.trans (congrArg some (by kernel_rfl))⟩
  f15 := Tryz.func79.trans (congrArg some (by kernel_rfl))
  f20 := ⟨Tryz.f117.name, by decide, Tryz.func117.trans (congrArg some (by kernel_rfl))⟩
  f21 := ⟨Tryz.f118.name, by decide, Tryz.func118.trans (congrArg some (by kernel_rfl))⟩
  f22 := ⟨Tryz.f119.name, by decide, Tryz.func119.trans (congrArg some (by kernel_rfl))⟩
  f23 := ⟨Tryz.f120.name, by decide, Tryz.func120.trans (congrArg some (by kernel_rfl))⟩
  f24 := ⟨Tryz.f121.name, by decide, Tryz.func121.trans (congrArg some (by kernel_rfl))⟩
  f25 := ⟨Tryz.f122.name, by decide, Tryz.func122.trans (congrArg some (by kernel_rfl))⟩
  f26 := ⟨Tryz.f123.name, by decide, Tryz.func123.trans (congrArg some (by kernel_rfl))⟩
  f27 := ⟨Tryz.f124.name, by decide, Tryz.func124.trans (congrArg some (by kernel_rfl))⟩
  f28 := Tryz.func107.trans (congrArg some (by kernel_rfl))
  f29 := Tryz.func108.trans (congrArg some (by kernel_rfl))
  f46 := ⟨Tryz.f140.name, by decide, Tryz.func140.trans (congrArg some (by kernel_rfl))⟩
  f47 := Tryz.func128.trans (congrArg some (by kernel_rfl))
  f48 := Tryz.func129.trans (congrArg some (by kernel_rfl))
  f49 := ⟨Tryz.f141.name, by decide, Tryz.func141.trans (congrArg some (by kernel_rfl))⟩
  f50 := ⟨Tryz.f142.name, by decide, Tryz.func142.trans (congrArg some (by kernel_rfl))⟩
  f57 := ⟨Tryz.f150.name, by decide, Tryz.func150.trans (congrArg some (by kernel_rfl))⟩
  t0 := Tryz.underlying0
  a0 := Tryz.isAgg0
  z0 := Tryz.sizeOf0
  v0 := Tryz.zeroValue0
  t3 := Tryz.underlying3
  a3 := Tryz.isAgg3
  z3 := Tryz.sizeOf3
  v3 := Tryz.zeroValue3
  t4 := Tryz.underlying4
  a4 := Tryz.isAgg4
  z4 := Tryz.sizeOf4
  v4 := Tryz.zeroValue4
  t5 := Tryz.underlying5
  a5 := Tryz.isAgg5
  z5 := Tryz.sizeOf5
  v5 := Tryz.zeroValue5
  t9 := Tryz.underlying9
  a9 := Tryz.isAgg9
  z9 := Tryz.sizeOf9
  v9 := Tryz.zeroValue9
  t22 := Tryz.underlying44
  a22 := Tryz.isAgg44
  z22 := Tryz.sizeOf44
  v22 := Tryz.zeroValue44
  t25 := Tryz.underlying72
  a25 := Tryz.isAgg72
  z25 := Tryz.sizeOf72
  v25 := Tryz.zeroValue72
  t39 := Tryz.underlying107
  a39 := Tryz.isAgg107
  z39 := Tryz.sizeOf107
  v39 := Tryz.zeroValue107
  t45 := Tryz.underlying131
  a45 := Tryz.isAgg131
  z45 := Tryz.sizeOf131
  v45 := Tryz.zeroValue131
  t46 := Tryz.underlying132
  a46 := Tryz.isAgg132
  z46 := Tryz.sizeOf132
  v46 := Tryz.zeroValue132
  t50 := Tryz.underlying137
  a50 := Tryz.isAgg137
  z50 := Tryz.sizeOf137
  v50 := Tryz.zeroValue137
  t53 := Tryz.underlying140
  a53 := Tryz.isAgg140
  z53 := Tryz.sizeOf140
  v53 := Tryz.zeroValue140
  t55 := Tryz.underlying142
  a55 := Tryz.isAgg142
  z55 := Tryz.sizeOf142
  v55 := Tryz.zeroValue142
  t66 := Tryz.underlying151
  a66 := Tryz.isAgg151
  z66 := Tryz.sizeOf151
  v66 := Tryz.zeroValue151
  t70 := Tryz.underlying155
  a70 := Tryz.isAgg155
  z70 := Tryz.sizeOf155
  v70 := Tryz.zeroValue155
  t76 := Tryz.underlying167
  a76 := Tryz.isAgg167
  z76 := Tryz.sizeOf167
  v76 := Tryz.zeroValue167
  t77 := Tryz.underlying168
  a77 := Tryz.isAgg168
  z77 := Tryz.sizeOf168
  v77 := Tryz.zeroValue168 }
end Go.Proofs
