/-
  Policies: laws of what comes of a packet. Plain; Statements that draw their order: states told anew; orders that come to the same; Statements that draw their order: each state that there may be is told once; What a tied row's condition gives: the library's table of powers of ten lies in memory.
-/
import Derived.Test.YtngodakgbldlpaaGreatDoorTJ5
import Derived.Test.YtngodakgbldlpaaGreatDoorTSxK
import Derived.Test.YtngodakgbldlpaaGreatDoorTJ4
import Derived.Test.YtngodakgbldlpaaGreatDoorTJ9
import Derived.Lib.LaidTab
import Derived.MakeChecks
import Derived.Test.YtngodakgbldlpaaGreatDoorRows
namespace Go.Proofs.YtngodakgbldlpaaGreatDoor
open Go.Sx
set_option maxRecDepth 20000
set_option linter.unusedVariables false
namespace Po
theorem runs_eq (sw sw' : Int) {x y : T} {s s' : S} (h : ∀ t, t ∈ runs sw x s ↔ t ∈ runs sw' y s') : runs sw x s = runs sw' y s' :=
  rising_eq (runs_rising sw s _ x (Nat.le_refl _)) (runs_rising sw' s' _ y (Nat.le_refl _)) h
def seqT (l : List T) : T := .mk 3 noneP 0 0 l
def uniT (l : List T) : T := .mk 4 noneP 0 0 l
def filT (p : Pd.T) : T := .mk 1 p 0 0 []
def ifT (p : Pd.T) (l : List T) : T := .mk 5 p 0 0 l
def notP (p : Pd.T) : Pd.T := .mk 4 0 0 [p]
theorem runs_seq (sw : Int) (l : List T) (s : S) : runs sw (seqT l) s = runsQ sw l [s] := by unfold seqT; rw [runs_mk]; simp
theorem runs_uni (sw : Int) (l : List T) (s : S) : runs sw (uniT l) s = runsU sw l s [] := by unfold uniT; rw [runs_mk]; simp
theorem runs_fil (sw : Int) (p : Pd.T) (s : S) : runs sw (filT p) s = if Pd.hits (s.at_ sw) p = true then [s] else [] := by unfold filT; rw [runs_mk]; simp
theorem runs_if (sw : Int) (p : Pd.T) (a b : T) (s : S) : runs sw (ifT p [a, b]) s = if Pd.hits (s.at_ sw) p = true then runs sw a s else runs sw b s := by unfold ifT; rw [runs_mk, runsA, runsB, runsA]; simp
theorem mem_seq1 (sw : Int) (y : T) (l : List T) (out : List S) (t : S) : t ∈ runsQ sw (y :: l) out ↔ t ∈ runsQ sw l (thenS sw y out) := by rw [runsQ]; exact Iff.rfl
theorem mem_runsQ (sw : Int) (t : S) : ∀ (l : List T) (out : List S), t ∈ runsQ sw l out ↔ ∃ s ∈ out, t ∈ runsQ sw l [s]
  | [], out => by simp [runsQ]
  | y :: l, out => by
    have e1 : ∀ o, runsQ sw (y :: l) o = runsQ sw l (thenS sw y o) := fun o => by rw [runsQ]; rfl
    rw [e1, mem_runsQ sw t l]
    constructor
    · rintro ⟨u, hu, ht⟩
      obtain ⟨s, hs, hu⟩ := (mem_then sw y u out).1 hu
      exact ⟨s, hs, by rw [e1, mem_runsQ sw t l]; exact ⟨u, (mem_then sw y u [s]).2 ⟨s, by simp, hu⟩, ht⟩⟩
    · rintro ⟨s, hs, ht⟩
      rw [e1, mem_runsQ sw t l] at ht
      obtain ⟨u, hu, ht⟩ := ht
      obtain ⟨s', hs', hu⟩ := (mem_then sw y u [s]).1 hu
      rw [List.mem_singleton.1 hs'] at hu
      exact ⟨u, (mem_then sw y u out).2 ⟨s, hs, hu⟩, ht⟩
theorem mem_Q0 (sw : Int) (s t : S) : t ∈ runsQ sw [] [s] ↔ t = s := by simp [runsQ]
theorem mem_Q1 (sw : Int) (y : T) (l : List T) (s t : S) : t ∈ runsQ sw (y :: l) [s] ↔ ∃ u ∈ runs sw y s, t ∈ runsQ sw l [u] := by
  rw [mem_seq1, mem_runsQ]
  constructor
  · rintro ⟨u, hu, ht⟩
    obtain ⟨s', hs', hu⟩ := (mem_then sw y u [s]).1 hu
    rw [List.mem_singleton.1 hs'] at hu
    exact ⟨u, hu, ht⟩
  · rintro ⟨u, hu, ht⟩
    exact ⟨u, (mem_then sw y u [s]).2 ⟨s, by simp, hu⟩, ht⟩
theorem mem_Qone (sw : Int) (y : T) (s t : S) : t ∈ runsQ sw [y] [s] ↔ t ∈ runs sw y s := by
  rw [mem_Q1]
  constructor
  · rintro ⟨u, hu, ht⟩
    rw [(mem_Q0 sw u t).1 ht]; exact hu
  · intro h
    exact ⟨t, h, (mem_Q0 sw t t).2 rfl⟩
/-! ### A union in any order; a sequence of three; a choice -/
theorem union_law (sw : Int) (a b : T) (s : S) : runs sw (uniT [a, b]) s = runs sw (uniT [b, a, b]) s := runs_eq sw sw fun t => by
  rw [runs_uni, runs_uni, mem_runsU, mem_runsU]
  simp only [List.mem_cons, List.not_mem_nil, or_false, exists_eq_or_imp, exists_eq_left, false_or]
  constructor
  · rintro (h | h) <;> simp [h]
  · rintro (h | h | h) <;> simp [h]
theorem seq_law (sw : Int) (a b d : T) (s : S) : runs sw (seqT [a, b, d]) s = runs sw (seqT [a, seqT [b, d]]) s := runs_eq sw sw fun t => by
  rw [runs_seq, runs_seq, mem_Q1, mem_Q1]
  simp only [mem_Qone, runs_seq]
theorem if_law (sw : Int) (p : Pd.T) (a b : T) (s : S) : runs sw (ifT p [a, b]) s = runs sw (uniT [seqT [filT p, a], seqT [filT (notP p), b]]) s := runs_eq sw sw fun t => by
  rw [runs_if, runs_uni, mem_runsU]
  simp only [List.mem_cons, List.not_mem_nil, or_false, exists_eq_or_imp, exists_eq_left, false_or, runs_seq, mem_Q1, runs_fil]
  have e : Pd.hits (s.at_ sw) (notP p) = !Pd.hits (s.at_ sw) p := Pd.hits_mk4 ..
  rw [e]
  have e0 := mem_Q0 sw
  cases Pd.hits (s.at_ sw) p
  · simp [e0]
  · simp [e0]
end Po
end Go.Proofs.YtngodakgbldlpaaGreatDoor
namespace Go.Sx
set_option linter.unusedVariables false
section
variable {P : Program}
theorem ordK_fit {js : List Nat} {H : List Blk} {l : List Oper} {n : Nat} {done done' : List Nat} {sl sl' : List AV} {m m' : List Blk} {k : List AV → List Blk → Prop} (hd : listedOf l.length done = listedOf l.length done') (hs : FitsSl sl sl') (hm : MemFits m m') (h : NOrdK P js H l n done' sl' m' k) : NOrdK P js H l n done sl m k := by
  unfold NOrdK at h ⊢
  intro w0 S a w hsim
  rw [hd]
  exact h w0 S a w (hsim.fits hs hm)
end
/-- What a statement that draws its order comes to, whatever the order. -/
def cutS {α : Type} (ok : α → Prop) (s : α → List AV) (mm : α → List Blk) : Post := fun e sl m => e = .normal ∧ KnowP m (∃ x, ok x ∧ FitsSl sl (s x) ∧ MemFits m (mm x))
theorem cut_done {α : Type} {ok : α → Prop} {s : α → List AV} {mm : α → List Blk} {sl : List AV} {m : List Blk} (x : α) (hx : ok x) (hs : FitsSl sl (s x)) (hm : MemFits m (mm x)) : cutS ok s mm .normal sl m :=
  ⟨rfl, KnowP.mk fun _ => ⟨x, hx, hs, hm⟩⟩
/-- A statement that draws its order, walked by itself: what follows is told once. -/
theorem st_drawCut {P : Program} {Q : Post} {sl : List AV} {m : List Blk} {id : Nat} {ops : Array Oper} {α : Type} (ok : α → Prop) (us : α → List Up) (ms : α → List UpB)
    (h1 : codeK P (.region id ops true) sl m (cutS ok (fun x => autoL sl (us x)) (fun x => autoM m (ms x))))
    (h2 : ∀ x, ok x → ∀ K : List AV → List Blk → Prop, (∀ sl' m', Q .normal sl' m' → K sl' m') → autoK sl (us x) fun sl' => autoMK m (ms x) fun m' => K sl' m') : codeK P (.region id ops true) sl m Q := by
  simp only [codeK] at h1 ⊢
  unfold NDraw at h1 ⊢
  intro id w0 S a w hsim
  refine wp_mono (h1 id w0 S a w hsim) fun e a w hq => ?_
  obtain ⟨rfl, sl', m', h3, h4⟩ := hq
  obtain ⟨x, hx, hs, hm⟩ := h3.2.get ⟨w, h4.mem⟩
  exact ⟨rfl, _, _, autoMK_spec _ _ (autoK_spec _ _ (h2 x hx (fun sl' m' => Q .normal sl' m') fun _ _ h => h)), h4.fits hs hm⟩
end Go.Sx
namespace Go.Sx
set_option linter.unusedVariables false
section
variable {P : Program}
/-- Orders that come to the same: each state that there may be is told once. -/
theorem ordK_memo {js : List Nat} {H : List Blk} {l : List Oper} {n : Nat} {done : List Nat} {sl : List AV} {m : List Blk} {k : List AV → List Blk → Prop} {α : Type} (D : α → List Nat) (N : α → Nat) (ok : α → Prop) (us : α → List Up) (ms : α → List UpB)
    (step : ∀ x, ok x → (∀ y, ok y → N y < N x → ∀ (d : List Nat) (sl' : List AV) (m' : List Blk), listedOf l.length d = listedOf l.length (D y) → FitsSl sl' (autoL sl (us y)) → MemFits m' (autoM m (ms y)) → NOrdK P js H l (N y) d sl' m' k) →
      ∀ K : List AV → List Blk → Prop, (∀ sl' m', NOrdK P js H l (N x) (D x) sl' m' k → K sl' m') → autoK sl (us x) fun sl' => autoMK m (ms x) fun m' => K sl' m')
    (x0 : α) (h0 : ok x0) (hn : n = N x0) (hd : listedOf l.length done = listedOf l.length (D x0)) (hs : FitsSl sl (autoL sl (us x0))) (hm : MemFits m (autoM m (ms x0))) : NOrdK P js H l n done sl m k := by
  have main : ∀ (t : Nat) (x : α), N x = t → ok x → ∀ (d : List Nat) (sl' : List AV) (m' : List Blk), listedOf l.length d = listedOf l.length (D x) → FitsSl sl' (autoL sl (us x)) → MemFits m' (autoM m (ms x)) → NOrdK P js H l (N x) d sl' m' k := by
    intro t
    induction t using Nat.strongRecOn with
    | _ t ih =>
      intro x hx hok d sl' m' h1 h2 h3
      refine ordK_fit h1 h2 h3 ?_
      have h := step x hok (fun y hy hlt d sl' m' a b c => ih (N y) (by omega) y rfl hy d sl' m' a b c) (fun sl' m' => NOrdK P js H l (N x) (D x) sl' m' k) fun _ _ h => h
      exact autoMK_spec _ _ (autoK_spec _ _ h)
  subst hn
  exact main _ x0 rfl h0 done sl m hd hs hm
end
end Go.Sx
namespace Go.Proofs.YtngodakgbldlpaaGreatDoor
open Go.Sx
theorem laidVars_mem {P : Program} {w : World} {n : String} {d : DataW Unit} : ∀ {l : List (String × DataW Unit)} {ps : List MemPlace}, DataW.LaidVars P w l ps → (n, d) ∈ l →
    ∃ g t cs fuel p, P.globalNamed n = some g ∧ (P.globals[g]?).map (·.type) = some t ∧ w.var? P n = some cs ∧ DataW.trod (fun _ => ()) P w 0 (fun _ => true) false fuel t cs.toList = some (d, p)
  | [], _, _, h => by cases h
  | (n', d') :: l, _, h, hm => by
    obtain ⟨g, t, cs, fuel, p, q, h1, h2, h3, h4, h5, _⟩ := h
    rcases List.mem_cons.1 hm with e | hm
    · cases e; exact ⟨g, t, cs, fuel, p, h1, h2, h3, h4⟩
    · exact laidVars_mem h5 hm
theorem tabF_of {W : World} {l : List (String × DataW Unit)} (hp : (l.all fun x => x.2.handleName?.isNone) = true) (h : laidMetH Tryz.prog l W)
    (hm : ("internal/strconv.uint64pow10", (Lib.tabData .u64 Lib.pow10Tab : DataW Unit)) ∈ l) : TabF (cellsW W) := by
  rw [MakeChecks.laidMetH_plain _ _ _ hp] at h
  obtain ⟨ps, h1, _⟩ := h
  obtain ⟨g, t, cs, fuel, p, hg, ht, hv, hd⟩ := laidVars_mem h1 hm
  have hg' : Tryz.prog.globalNamed "internal/strconv.uint64pow10" = some 0 := by kernel_rfl
  obtain rfl := Option.some.inj (hg'.symm.trans hg)
  have ht' : (Tryz.prog.globals[0]?).map (·.type) = some 171 := by kernel_rfl
  obtain rfl := Option.some.inj (ht'.symm.trans ht)
  have hc := Lib.cells_of_tab Tryz.underlying171 Tryz.underlying142 (by kernel_rfl) (by kernel_rfl) hd
  unfold World.var? at hv
  rw [hg'] at hv
  simp only [Option.bind_some] at hv
  split at hv
  · rename_i cs' t fr e
    injection hv with hv
    subst hv
    refine ⟨t, fr, ?_⟩
    show W.heap[0]? = _
    rw [e]
    have : cs' = (Lib.pow10Tab.map fun z => Value.int .u64 z).toArray := by rw [← hc]
    rw [this]
  · cases hv
end Go.Proofs.YtngodakgbldlpaaGreatDoor
