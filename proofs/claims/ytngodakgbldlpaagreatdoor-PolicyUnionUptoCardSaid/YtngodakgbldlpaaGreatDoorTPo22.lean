/-
  An iterator over a map's keys.
-/
import Derived.Test.YtngodakgbldlpaaGreatDoorTJ11
import Derived.Test.YtngodakgbldlpaaGreatDoorTJ8
namespace Go.Proofs.YtngodakgbldlpaaGreatDoor
open Go.Sx Go.RowKit
set_option maxRecDepth 20000
set_option linter.unusedSimpArgs false
set_option linter.unusedVariables false
set_option maxHeartbeats 2000000
set_option linter.unusedVariables false
theorem keys27_c (F : Heap) (b : Nat) :
    NCall Tryz.prog 37 [.raw (.map (some b))] [hpB F] fun r m => ∃ c : Nat, r = .fn 66 [] [.ptr 1 ⟨c, 0, none⟩ 0] ∧ m = [hpB F, ⟨⟨c, 0, none⟩, [.raw (.map (some b))], .var 65⟩] := by
  refine ncall_of Tryz.func37 rfl (by decide) ?_
  repeat' first|(refine sxZ ?_;try clear hK K)|refine sxW ?_ ?_<;>intro _|(intro K hK _;(conv=>whnf))
  exact ⟨_, rfl, rfl⟩
def encS (t : Po.S) : List AV := [.agg t.av]
/-- The iterator's slots. -/
def kySl (lp : Nat) (cap : Addr) (c : Nat) : List AV := [.raw (.func (.yield lp) #[] #[]), .hp cap 0, .any, .any, .any, .raw (.pointer (some ⟨c, 0, none⟩)), .any, .any, .any, .any, .any, .any, .any, .any]
def kyM (F : Heap) (c b n : Nat) (seen : Array Nat) : List Blk := [hpB F, itB c b n seen]
/-- Between two rounds of the iterator. -/
def kyInv (lp : Nat) (cap : Addr) (F : Heap) (b c base : Nat) (N : List Po.S) (J : List Po.S → World → Prop) (a : Go.Act) (W : World) : Prop :=
  ∃ seen pre, Po.okPre N seen pre ∧ SlotsOk (kySl lp cap c) a.tmps ∧ a.defers = [] ∧ MemOk (kyM F c b N.length seen) W ∧ J pre W
def kyLeft (n c : Nat) (W : World) : Nat :=
  match W.heap[c]? with
  | some (.mapIter _ _ seen _) => Po.left n seen
  | _ => 0
theorem ky_left {F : Heap} {c b n : Nat} {seen : Array Nat} {W : World} (h : MemOk (kyM F c b n seen) W) : kyLeft n c W = Po.left n seen := by
  have := h.obj (j := 1) (b := c) (o := .mapIter (some b) n seen n) rfl
  unfold kyLeft
  rw [this]
theorem sim_at {m : List Blk} {sl : List AV} {a : Go.Act} {W : World} (h1 : SlotsOk sl a.tmps) (h2 : a.defers = []) (h3 : MemOk m W) : Sim W (own m) sl m a W :=
  ⟨h1, h2, h3, Fr.refl _ W, fun b hb => .inl hb, fun b hb => .inl hb⟩
theorem ky_wrs {F : Heap} {c b n : Nat} {seen : Array Nat} {k : Nat} (h : wrs (kyM F c b n seen) k) : k = c := by
  obtain ⟨k', hk', hw, hb⟩ := h
  simp only [kyM, List.mem_cons, List.not_mem_nil, or_false] at hk'
  rcases hk' with rfl | rfl
  · cases hw
  · replace hb : (itB c b n seen).bn = some k := hb
    simp only [itB, Blk.bn, Option.some.injEq] at hb
    exact hb.symm
theorem hp_wrs {F : Heap} {k : Nat} (h : wrs [hpB F] k) : False := by
  obtain ⟨k', hk', hw, _⟩ := h
  rw [List.mem_singleton] at hk'
  subst hk'
  cases hw
theorem ky_grown {F : Heap} {c b n : Nat} {seen : Array Nat} {A B : World} (h : Fr (wrs (kyM F c b n seen)) A B) : A.grownBy B (some c) :=
  ⟨h.os, h.tape, h.output, h.size, fun k hk hne => h.block k hk fun hw => hne (by rw [ky_wrs hw])⟩
theorem ky_still {F : Heap} {c b n : Nat} {seen : Array Nat} {m1 : List Blk} {w A B : World} (hm : MemOk m1 w) (hF : hpB F ∈ m1) (hc : w.heap.size ≤ c) (h : MemOk (kyM F c b n seen) A) (hs : Still m1 w A B) : MemOk (kyM F c b n seen) B := by
  have h1 : MemOk [hpB F] A := ⟨fun k hk => h.holds k (by rw [List.mem_singleton] at hk; subst hk; simp [kyM]), by simp⟩
  have h2 := hm.still hF h1 hs
  have h3 := h.obj (j := 1) (b := c) (o := .mapIter (some b) n seen n) rfl
  refine ⟨fun k hk => ?_, h.sep⟩
  simp only [kyM, List.mem_cons, List.not_mem_nil, or_false] at hk
  rcases hk with rfl | rfl
  · exact h2.holds _ (by simp)
  · exact ⟨rfl, rfl, rfl, hs.2.2 c _ hc h3 rfl⟩
theorem keys_gives (F : Heap) (b : Nat) (N : List Po.S) (m1 : List Blk) (hF : hpB F ∈ m1) (cap : Addr) (hc : F.c cap (.map (some b))) (hb : F.o b (mapObj (Po.sM N))) :
    GivesS Tryz.prog 66 [.hp cap 0] m1 encS (fun ys => ys.Perm N) N.length := by
  have hu : Tryz.prog.underlying 65 = some (.map 63 71) := by kernel_rfl
  have hc0 : F.c (cap.add 0) (.map (some b)) := by simpa [Addr.add] using hc
  have hmi : ∀ m : List Blk, m[0]? = some (hpB F) → MapIn m b (Po.sM N) := fun m h => MapIn.heap h hb
  intro w hm lp J Jx W hW hJ hJx hY h0
  have hmW : MemOk [hpB F] W := (hm.one_of hF).keep hW.size fun k hk b hb => by
    rw [List.mem_singleton] at hk
    subst hk
    exact hW.block b ((hm.holds _ hF).lt hb)
  refine callsIn_of_wp Tryz.func66 rfl trivial ?_ rfl
  have hs0 : SlotsOk ([.raw (.func (.yield lp) #[] #[]), .hp cap 0, .any, .any, .any, .any, .any, .any, .any, .any, .any, .any, .any, .any]) (#[.func (.yield lp) #[] #[]] ++ (denL [.hp cap 0]).toArray ++ Array.replicate (14 - 2) undef) :=
    args_ok (args := [.raw (.func (.yield lp) #[] #[]), .hp cap 0]) (n := 14) (by show 2 ≤ _; decide)
  refine wpIn_seq (wpIn_mono (wpIn_wide.2 (codeK_sound (Q := fun e sl' m' => e = .normal ∧ ∃ c, m' = kyM F c b N.length #[] ∧ FitsSl sl' (kySl lp cap c)) ?_ (sim_at (sl := [.raw (.func (.yield lp) #[] #[]), .hp cap 0, .any, .any, .any, .any, .any, .any, .any, .any, .any, .any, .any, .any]) (a := { tmps := _, defers := [] }) hs0 rfl hmW))) ?_)
  · clear hs0 hY
    repeat' first|((try intro K hK);((with_reducible refine gMap ?_); refine sent_range (N := N) hu (hmi _ rfl) fun c => ?_; conv=>whnf))|(refine sxZ ?_;try clear hK K)|refine sxW ?_ ?_<;>intro _|(intro K hK _;(conv=>whnf))|(intro _;(conv=>whnf))
    refine ⟨rfl, _, rfl, ?_⟩
    unfold kySl
    exact fitsGo
  rintro e a w1 ⟨sl, m, ⟨rfl, c, rfl, hfit⟩, hsm⟩
  have hcW : W.heap.size ≤ c := by
    rcases hsm.fresh.1 c ⟨itB c b N.length #[], by simp [kyM], rfl, rfl⟩ with h | h
    · exact (hp_wrs h).elim
    · exact h
  have hcw : w.heap.size ≤ c := Nat.le_trans hW.size hcW
  have hJ1 : J [] w1 := hJ _ _ _ none h0 ⟨hsm.fr.os, hsm.fr.tape, hsm.fr.output, hsm.fr.size, fun k hk _ => hsm.fr.block k hk hp_wrs⟩ (by simp)
  have hwalk : ∀ {seen : Array Nat} {A : World}, MemOk (kyM F c b N.length seen) A → ∀ r, some c = some r → W.heap.size ≤ r ∧ ∃ o : Obj, A.heap[r]? = some o ∧ o.isWalk = true := fun {seen A} h r e => by
    cases e
    exact ⟨hcW, _, h.obj (j := 1) (b := c) (o := .mapIter (some b) N.length seen N.length) rfl, rfl⟩
  refine wpIn_block (wpIn_loop (kyInv lp cap F b c w.heap.size N J) (fun _ W => kyLeft N.length c W) ⟨#[], [], Po.okPre_start N, hsm.slots.fits hfit, hsm.defers, hsm.mem, hJ1⟩ ?_)
  rintro a W2 ⟨seen, pre, hok, hsl, hd, hm2, hJ2⟩
  dsimp only
  rw [ky_left hm2]
  refine wpIn_seq (wpIn_mono (wpIn_wide.2 (codeK_sound (Q := fun e sl' m' => e = .normal ∧ (((∀ i, i < N.length → seen.contains i = true) ∧ m' = kyM F c b N.length seen ∧ FitsSl sl' ([.any, .any, .any, .any, .any, .any, .any, .bool false, .any, .any, .any, .any, .any, .any])) ∨ ∃ i t, N[i]? = some t ∧ seen.contains i = false ∧ m' = kyM F c b N.length (seen.push i) ∧ FitsSl sl' ([.raw (.func (.yield lp) #[] #[]), .hp cap 0, .any, .any, .any, .raw (.pointer (some ⟨c, 0, none⟩)), .any, .bool true, .any, .any, .any, .any, .any, .any]))) ?_ (sim_at hsl hd hm2))) ?_)
  · unfold kySl kyM
    repeat' first|((try intro K hK);((with_reducible refine gMap ?_); refine sent_next (N := N) (j := 1) rfl (hmi _ rfl) ?_ ?_ <;> first | (intro i9 t9 hi9 hs9; conv=>whnf) | (intro hall9; conv=>whnf)))|(refine sxZ ?_;try clear hK K)|refine sxW ?_ ?_<;>intro _|(intro K hK _;(conv=>whnf))|(intro _;(conv=>whnf))
    · refine ⟨rfl, .inl ⟨hall9, rfl, ?_⟩⟩
      exact fitsGo
    · refine ⟨rfl, .inr ⟨i9, t9, hi9, hs9, rfl, ?_⟩⟩
      exact fitsGo
  rintro e a1 W3 ⟨sl1, m1', ⟨rfl, hq⟩, hs1'⟩
  have hJ3 : J pre W3 := hJ _ _ _ (some c) hJ2 (ky_grown hs1'.fr) (hwalk hm2)
  have hd3 := hs1'.defers
  rcases hq with ⟨hall, rfl, hfit1⟩ | ⟨i, t, hit, hsn, rfl, hfit1⟩
  · refine wpIn_seq (wpIn_mono (wpIn_wide.2 (codeK_sound (Q := fun e sl' m' => e = .exit 0 ∧ m' = kyM F c b N.length seen) ?_ (sim_at (hs1'.slots.fits hfit1) hd3 hs1'.mem))) ?_)
    · repeat' first|(refine sxZ ?_;try clear hK K)|refine sxW ?_ ?_<;>intro _|(intro K hK _;(conv=>whnf))
      exact ⟨rfl, rfl⟩
    rintro e a2 W4 ⟨sl2, m2, ⟨rfl, rfl⟩, hs2'⟩
    refine ⟨hs2'.defers, _, by simp [results, Tryz.f66]; rfl, ⟨_, rfl⟩, .inl ⟨pre, Po.okPre_end hok hall, ?_⟩⟩
    exact hJ _ _ _ (some c) hJ3 (ky_grown hs2'.fr) (hwalk hs1'.mem)
  · have hsl3 := hs1'.slots.fits hfit1
    have hm3 := hs1'.mem
    have hok3 := Po.okPre_push hok hit hsn
    have hlt3 := Po.okPre_lt hok hit hsn
    have hleft : Po.left N.length (seen.push i) < Po.left N.length seen := Po.left_push (List.getElem?_eq_some_iff.1 hit).1 hsn
    clear hs1' hfit1 hm2 hJ2 hsl hd
    refine wpIn_seq (wpIn_mono (wpIn_wide.2 (codeK_sound (Q := fun e sl' m' => e = .normal ∧ m' = kyM F c b N.length (seen.push i) ∧ FitsSl sl' ([.raw (.func (.yield lp) #[] #[]), .hp cap 0, .any, .any, .any, .raw (.pointer (some ⟨c, 0, none⟩)), .any, .any, .any, .any, .any, .any, .any, .any])) ?_ (sim_at hsl3 hd3 hm3))) ?_)
    · repeat' first|(refine sxZ ?_;try clear hK K)|refine sxW ?_ ?_<;>intro _|(intro K hK _;(conv=>whnf))
      refine ⟨rfl, rfl, ?_⟩
      exact fitsGo
    rintro e a2 W4 ⟨sl2, m2, ⟨rfl, rfl, hfit2⟩, hs2'⟩
    have hJ4 : J pre W4 := hJ _ _ _ (some c) hJ3 (ky_grown hs2'.fr) (hwalk hm3)
    have hm4 := hs2'.mem
    have hsl4 := hs2'.slots.fits hfit2
    have hd4 := hs2'.defers
    clear hs2' hfit2
    refine wpIn_block (wpIn_seq (wpIn_mono (wpIn_wide.2 (codeK_sound (Q := fun e sl' m' => e = .normal ∧ ∃ k : Nat, m' = kyM F c b N.length (seen.push i) ++ [⟨⟨k, 0, none⟩, t.av, .var 63⟩] ∧ FitsSl sl' ([.raw (.func (.yield lp) #[] #[]), .hp cap 0, .any, .ptr 2 ⟨k, 0, none⟩ 0, .any, .raw (.pointer (some ⟨c, 0, none⟩)), .any, .any, .any, .any, .any, .any, .any, .any])) ?_ (sim_at hsl4 hd4 hm4))) ?_))
    · unfold kyM
      repeat' first|((try intro K hK);((with_reducible refine gMap ?_); refine sent_now (N := N) (j := 1) rfl (hmi _ rfl) hit ?_; conv=>whnf))|(refine sxZ ?_;try clear hK K)|refine sxW ?_ ?_<;>intro _|(intro K hK _;(conv=>whnf))|(intro _;(conv=>whnf))
      refine ⟨rfl, _, rfl, ?_⟩
      exact fitsGo
    rintro e a3 W5 ⟨sl3, m3, ⟨rfl, k, rfl, hfit3⟩, hs3'⟩
    have hJ5 : J pre W5 := hJ _ _ _ (some c) hJ4 (ky_grown hs3'.fr) (hwalk hm4)
    obtain ⟨F2, hF2⟩ : ∃ F2, F2 = addF F ⟨k, 0, none⟩ (denL t.av) := ⟨_, rfl⟩
    have hle : F.le F2 := by rw [hF2]; exact addF.old
    have hcells : CellsF F2 ⟨k, 0, none⟩ 0 (denL t.av) := by rw [hF2]; exact addF.new
    have hm5 : MemOk (kyM F2 c b N.length (seen.push i)) W5 := by
      have h1 := ((MemFits.pick [0, 2, 1] (by decide) rfl : MemFits (kyM F c b N.length (seen.push i) ++ [⟨⟨k, 0, none⟩, t.av, .var 63⟩]) [hpB F, ⟨⟨k, 0, none⟩, t.av, .var 63⟩, itB c b N.length (seen.push i)]) W5 hs3'.mem).1
      have h2 := (MemFits.freezeVar W5 h1).1
      rw [hF2]
      exact h2
    have hsl5 : SlotsOk ([.raw (.func (.yield lp) #[] #[]), .hp cap 0, .any, .hp ⟨k, 0, none⟩ 0, .any, .raw (.pointer (some ⟨c, 0, none⟩)), .any, .any, .any, .any, .any, .any, .any, .any]) a3.tmps := (hs3'.slots.fits hfit3).fits (by
      repeat (first | exact FitsSl.nil | refine FitsSl.any ?_ | refine FitsSl.cons (.inr ⟨(fun h => by cases h), rfl⟩) ?_))
    have hd5 := hs3'.defers
    clear hs3' hfit3 hF2
    refine wpIn_seq (wpIn_region_list ?_)
    have hsplit : ∀ (l : List Oper), l = l.take 2 ++ l.drop 2 := fun l => (List.take_append_drop 2 l).symm
    rw [hsplit (Array.toList _)]
    refine opsK_then (k := fun sl' m' => m' = kyM F2 c b N.length (seen.push i) ∧ FitsSl sl' ([.raw (.func (.yield lp) #[] #[]), .hp cap 0, .any, .any, .any, .raw (.pointer (some ⟨c, 0, none⟩)), .any, .any, .any, .any, .raw (.func (.yield lp) #[] #[]), .agg t.av, .any, .any])) ?_ (sim_at hsl5 hd5 hm5) ?_
    · obtain ⟨d0, d1, d2, d3, d4, _⟩ := hcells
      unfold kyM
      clear hY hJ hJx
      obtain ⟨a0, q0, q1, q2, q3⟩ := t
      simp only [Po.S.av] at *
      show opsK _ _ (_ :: _ :: []) _ _ _
      repeat' first|(refine sxZ ?_;try clear hK K)|refine sxW ?_ ?_<;>intro _|(intro K hK _;(conv=>whnf))
      refine ⟨rfl, ?_⟩
      exact fitsGo
    rintro sl6 m6 a6 W6 ⟨rfl, hfit6⟩ hs6
    have hJ6 : J pre W6 := hJ _ _ _ (some c) hJ5 (ky_grown hs6.fr) (fun r e => by
      cases e
      exact ⟨hcW, _, hm5.obj (j := 1) (b := c) (o := .mapIter (some b) N.length (seen.push i) N.length) rfl, rfl⟩)
    have hm6 : MemOk (kyM F c b N.length (seen.push i)) W6 := (MemFits.less hle _ W6 hs6.mem).1
    have hsl6 := hs6.slots.fits hfit6
    have hd6 := hs6.defers
    have hY' := hY _ t W6 hJ6 hlt3
    have hat : ∀ (i : Nat) (y : AV), ([.raw (.func (.yield lp) #[] #[]), .hp cap 0, .any, .any, .any, .raw (.pointer (some ⟨c, 0, none⟩)), .any, .any, .any, .any, .raw (.func (.yield lp) #[] #[]), .agg t.av, .any, .any])[i]? = some y → y ≠ .any → a6.tmps[i]? = some y.den := fun i y hy hne => by
      have hlt : i < a6.tmps.size := by rw [← hsl6.1]; exact (List.getElem?_eq_some_iff.1 hy).1
      have := hsl6.2 i y a6.tmps[i] hy (by simp [hlt])
      rcases this with h | h
      · exact (hne h).elim
      · simp [hlt, h]
    refine yield_then (lp := lp) rfl rfl (by simp [Go.Act.eval, hat 10 _ rfl (by simp), AV.den]) (vs := (denL (encS t)).toArray) ?_ hY' ?_
    · simp [Go.Act.eval, hat 11 _ rfl (by simp), AV.den, encS, denL]
    rintro e W7 (⟨rfl, hJ7, hst⟩ | ⟨rfl, hJ7⟩)
    · refine ⟨_, rfl, ?_⟩
      have hm7 := ky_still hm hF hcw hm6 hst
      refine opsK_all (k := fun sl' m' => m' = kyM F c b N.length (seen.push i) ∧ FitsSl sl' ([.raw (.func (.yield lp) #[] #[]), .hp cap 0, .any, .any, .any, .raw (.pointer (some ⟨c, 0, none⟩)), .any, .any, .any, .any, .any, .any, .any, .bool false])) ?_ (sim_at (a := a6.put (some 12) (.bool true)) (hsl6.set 12 (.bool true)) hd6 hm7) ?_
      · repeat' first|(refine sxZ ?_;try clear hK K)|refine sxW ?_ ?_<;>intro _|(intro K hK _;(conv=>whnf))
        refine ⟨rfl, ?_⟩
        exact fitsGo
      rintro sl8 m8 a8 W8 ⟨rfl, hfit8⟩ hs8
      have hJ8 := hJ _ _ _ (some c) hJ7 (ky_grown hs8.fr) (hwalk hm7)
      refine wpIn_mono (wpIn_wide.2 (codeK_sound (Q := fun e sl' m' => e = .normal ∧ m' = kyM F c b N.length (seen.push i) ∧ FitsSl sl' (kySl lp cap c)) ?_ (sim_at (hs8.slots.fits hfit8) hs8.defers hs8.mem))) ?_
      · repeat' first|(refine sxZ ?_;try clear hK K)|refine sxW ?_ ?_<;>intro _|(intro K hK _;(conv=>whnf))
        refine ⟨rfl, rfl, ?_⟩
        unfold kySl
        exact fitsGo
      rintro e a9 W9 ⟨sl9, m9, ⟨rfl, rfl, hfit9⟩, hs9⟩
      have hJ9 := hJ _ _ _ (some c) hJ8 (ky_grown hs9.fr) (hwalk hs8.mem)
      refine ⟨⟨seen.push i, pre ++ [t], hok3, hs9.slots.fits hfit9, hs9.defers, hs9.mem, hJ9⟩, ?_⟩
      rw [ky_left hs9.mem]
      exact hleft
    · refine ⟨_, rfl, ?_⟩
      refine opsK_all (k := fun sl' m' => m' = [] ∧ FitsSl sl' ([.any, .any, .any, .any, .any, .any, .any, .any, .any, .any, .any, .any, .any, .bool true])) ?_ (sim_at (m := []) (a := a6.put (some 12) (.bool false)) (hsl6.set 12 (.bool false)) hd6 (MemOk.nil W7)) ?_
      · repeat' first|(refine sxZ ?_;try clear hK K)|refine sxW ?_ ?_<;>intro _|(intro K hK _;(conv=>whnf))
        refine ⟨rfl, ?_⟩
        exact fitsGo
      rintro sl8 m8 a8 W8 ⟨rfl, hfit8⟩ hs8
      refine wpIn_mono (wpIn_wide.2 (codeK_sound (Q := fun e sl' m' => e = .ret ∧ m' = []) ?_ (sim_at (hs8.slots.fits hfit8) hs8.defers hs8.mem))) ?_
      · repeat' first|(refine sxZ ?_;try clear hK K)|refine sxW ?_ ?_<;>intro _|(intro K hK _;(conv=>whnf))
        exact ⟨rfl, rfl⟩
      rintro e a9 W9 ⟨sl9, m9, ⟨rfl, rfl⟩, hs9⟩
      have gr : ∀ {A B : World}, Fr (wrs []) A B → A.grownBy B none := fun h => ⟨h.os, h.tape, h.output, h.size, fun k hk _ => h.block k hk wrs_nil⟩
      refine ⟨hs9.defers, _, by simp [results, Tryz.f66]; rfl, ⟨_, rfl⟩, .inr ⟨pre ++ [t], trivial, ?_⟩⟩
      exact hJx _ _ _ none (hJx _ _ _ none hJ7 (gr hs8.fr) (by simp)) (gr hs9.fr) (by simp)
end Go.Proofs.YtngodakgbldlpaaGreatDoor


