/-
  What a tied row's condition gives: the library's tables of blanks lie in memory.
-/
import Derived.Test.YtdalneokgejmjaaDoorCard
import Derived.Test.YtdalneokgejmjaaDoorSpc
import Derived.Lib.LaidU8
namespace Go.Proofs.YtdalneokgejmjaaDoor
open Go.Sx
set_option linter.unusedVariables false
theorem spaceF_of {W : World} {l : List (String × DataW Unit)} (hp : (l.all fun x => x.2.handleName?.isNone) = true) (h : laidMetH Tryd.prog l W)
    (hm : ("strings.asciiSpace", (Lib.tabData .u8 Lib.asciiSpaceTab : DataW Unit)) ∈ l) : SpaceF (cellsW W) := by
  rw [MakeChecks.laidMetH_plain _ _ _ hp] at h
  obtain ⟨ps, h1, _⟩ := h
  obtain ⟨g, t, cs, fuel, p, hg, ht, hv, hd⟩ := laidVars_mem h1 hm
  have hg' : Tryd.prog.globalNamed "strings.asciiSpace" = some 0 := by kernel_rfl
  obtain rfl := Option.some.inj (hg'.symm.trans hg)
  have ht' : (Tryd.prog.globals[0]?).map (·.type) = some 72 := by kernel_rfl
  obtain rfl := Option.some.inj (ht'.symm.trans ht)
  have hc := Lib.cells_of_tab Tryd.underlying72 Tryd.underlying5 (by kernel_rfl) (by kernel_rfl) hd
  unfold World.var? at hv
  rw [hg'] at hv
  simp only [Option.bind_some] at hv
  split at hv
  · rename_i cs' t fr e
    injection hv with hv
    subst hv
    refine ⟨t, fr, ?_⟩
    show W.heap[0]? = _
    rw [e]
    have : cs' = (Lib.asciiSpaceTab.map fun z => Value.int .u8 z).toArray := by rw [← hc]
    rw [this]
  · cases hv
theorem whiteF_of {W : World} {l : List (String × DataW Unit)} (hp : (l.all fun x => x.2.handleName?.isNone) = true) (h : laidMetH Tryd.prog l W)
    (hm : ("unicode.White_Space", Lib.whiteData) ∈ l) : WhiteF (cellsW W) := by
  rw [MakeChecks.laidMetH_plain _ _ _ hp] at h
  have hr := Lib.laidMet.reads h hm
  have hw := whiteTab_of_reads (P := Tryd.prog) (ρ := Tryd.lays157_ren) { Tryd.lays157 with } ⟨by kernel_rfl, by kernel_rfl, by kernel_rfl, by kernel_rfl, by kernel_rfl, by kernel_rfl, by kernel_rfl, by kernel_rfl⟩ hr
  obtain ⟨T, oT, R, oR, h1, h2, h3, h4, h5⟩ := hw
  have lt : ∀ {a : Addr} {v : Value}, W.cell? a = some v → a.block < W.heap.size := fun {a v} hc => by
    unfold World.cell? at hc
    split at hc
    · rename_i e
      exact (Array.getElem?_eq_some_iff.1 e).1
    all_goals first | cases hc | (rename_i e; exact (Array.getElem?_eq_some_iff.1 e).1)
  exact ⟨T, oT, R, oR, ⟨lt h1, h1⟩, ⟨lt h2, h2⟩, ⟨lt h3, h3⟩, ⟨lt h4, h4⟩, fun i hi => ⟨lt (h5 i hi), h5 i hi⟩⟩
end Go.Proofs.YtdalneokgejmjaaDoor
