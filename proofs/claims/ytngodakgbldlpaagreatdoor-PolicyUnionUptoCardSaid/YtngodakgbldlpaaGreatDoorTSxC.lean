/-
  Rules for the evaluator's steps; arguments of a row, opened.
-/
import Derived.Test.YtngodakgbldlpaaGreatDoorTSxB
import Derived.IntWalk
import Derived.ChangeArms
import Derived.OpenShut
import Derived.ProofKit
import Derived.DataReads
namespace Go.Sx
section
variable {P : Program}
section
variable {l : List Oper} {V : Nat → Value} {a0 : Act} {D D' : Nat → Prop} {b b' : Act}
end
/-! ### The rule -/
/-- A block of nothing, in the place of one that is written. -/
def nilB : Blk := ⟨⟨0, 0, none⟩, [], .ro (.slice none 0 0) 1 0⟩
def hideF (js : List Nat) : Nat → List Blk → List Blk
  | _, [] => []
  | i, b :: m => (match js.contains i with | true => nilB | false => b) :: hideF js (i + 1) m
theorem nilB_holds (w : World) : nilB.holds w := ⟨rfl, none, 0, rfl, Nat.le_refl _, fun _ => rfl, fun h => absurd h (Nat.lt_irrefl _)⟩
theorem nilB_foot (b : Nat) : ¬ nilB.foot b := fun h => by
  have : (none : Option Nat) = some b := h
  cases this
theorem mem_hideF {js : List Nat} : ∀ {m : List Blk} {i : Nat} {k : Blk}, k ∈ hideF js i m → k = nilB ∨ k ∈ m
  | [], _, _, h => by cases h
  | b :: m, i, k, h => by
    unfold hideF at h
    rcases List.mem_cons.1 h with h | h
    · split at h
      · exact .inl h
      · exact .inr (by simp [h])
    · rcases mem_hideF h with h | h
      · exact .inl h
      · exact .inr (List.mem_cons_of_mem _ h)
theorem hideF_ok {js : List Nat} {w : World} : ∀ {m : List Blk} (i : Nat), MemOk m w → MemOk (hideF js i m) w
  | [], _, h => h
  | b :: m, i, h => by
    obtain ⟨h1, h2⟩ := List.pairwise_cons.1 h.sep
    have ih : MemOk (hideF js (i + 1) m) w := hideF_ok (i + 1) ⟨fun k hk => h.holds k (List.mem_cons_of_mem _ hk), h2⟩
    unfold hideF
    refine ⟨fun k hk => ?_, List.pairwise_cons.2 ⟨fun k hk => ?_, ih.sep⟩⟩
    · rcases List.mem_cons.1 hk with rfl | hk
      · split
        · exact nilB_holds w
        · exact h.holds b (by simp)
      · exact ih.holds k hk
    · split
      · exact fun _ c hc _ => nilB_foot c hc
      · rcases mem_hideF hk with rfl | hk
        · exact fun _ c _ hc => nilB_foot c hc
        · exact h1 k hk
end
end Go.Sx

namespace Go.Sx
open Go.RowKit

theorem gV {v : Int} {K : Int → Prop} (h : NV v K) : NV v K := h
theorem gN {v : Nat} {K : Nat → Prop} (h : NN v K) : NN v K := h
theorem gH {p q : Prop} (h : NH p q) : NH p q := h
theorem gOnes {cs : List AV} (h : ones cs = true) : ones cs = true := h
theorem gLen {cs : List AV} {n : Nat} (h : cs.length = n) : cs.length = n := h
theorem gNO {P : Program} {l : List Oper} {n : Nat} {done : List Nat} {sl : List AV} {m : List Blk} {k : List AV → List Blk → Prop} (h : NOrd P l n done sl m k) : NOrd P l n done sl m k := h
theorem gNE {P : Program} {l : List Oper} {n : Nat} {done : List Nat} {sl : List AV} {m : List Blk} {k : List AV → List Blk → Prop} {rs : List (Nat × Oper)} (h : NEach P l n done sl m k rs) : NEach P l n done sl m k rs := h
theorem gI {b : Bool} {p q : Prop} (h : NIf b p q) : NIf b p q := h
theorem gC {P : Program} {f : FuncId} {args : List AV} {m : List Blk} {K : AV → List Blk → Prop} (h : NCall P f args m K) : NCall P f args m K := h
theorem gO {P : Program} {ops : Array Oper} {l : List Oper} {sl : List AV} {m : List Blk} {k : List AV → List Blk → Prop} (h : opsK P ops l sl m k) : opsK P ops l sl m k := h
theorem gX {P : Program} {c : Code} {sl : List AV} {m : List Blk} {Q : Post} (h : codeK P c sl m Q) : codeK P c sl m Q := h
theorem NV.keep {v : Int} {K : Int → Prop} (h : K v) : NV v K := NV_iff.2 h
theorem NV.eq {v n : Int} {K : Int → Prop} (e : v = n) (h : K n) : NV v K := NV_iff.2 (e ▸ h)
theorem NS.keep {v : List UInt8} {K : List UInt8 → Prop} (h : K v) : NS v K := NS_iff.2 h
theorem NN.keep {v : Nat} {K : Nat → Prop} (h : K v) : NN v K := NN_iff.2 h
theorem NN.eq {v n : Nat} {K : Nat → Prop} (e : v = n) (h : K n) : NN v K := NN_iff.2 (e ▸ h)
theorem NN.lit {n : Nat} {K : Nat → Prop} (h : K (@OfNat.ofNat Nat n (instOfNatNat n))) : NN (Int.toNat (@OfNat.ofNat Int n (@instOfNat n))) K := NN_iff.2 h
theorem NN.cast {k : Nat} {K : Nat → Prop} (h : K k) : NN (Int.toNat (k : Int)) K := NN_iff.2 (by rw [Int.toNat_natCast]; exact h)
theorem NN.a1 {k : Nat} {K : Nat → Prop} (h : K k) : NN (0 + k * 1) K := NN.eq (by omega) h
theorem NN.a2 {k : Nat} {K : Nat → Prop} (h : K k) : NN (k * 1) K := NN.eq (by omega) h
theorem NN.a5 {k : Nat} {K : Nat → Prop} (h : K k) : NN (0 + k) K := NN.eq (by omega) h
theorem NN.a6 {k : Nat} {K : Nat → Prop} (h : K k) : NN (k + 0) K := NN.eq (by omega) h
theorem NH.mk {p q : Prop} (hp : p) (h : q) : NH p q := NH_iff.2 ⟨hp, h⟩
theorem NIf.yes {b : Bool} {p q : Prop} (hb : b = true) (h : p) : NIf b p q := NIf_iff.2 ⟨fun _ => h, fun e => absurd (hb.symm.trans e) (by decide)⟩
theorem NIf.no {b : Bool} {p q : Prop} (hb : b = false) (h : q) : NIf b p q := NIf_iff.2 ⟨fun e => absurd (hb.symm.trans e) (by decide), fun _ => h⟩
theorem NIf.dec {c : Prop} {_ : Decidable c} {p q : Prop} (h1 : c → p) (h2 : ¬ c → q) : NIf (decide c) p q := NIf_iff.2 ⟨fun e => h1 (of_decide_eq_true e), fun e => h2 (of_decide_eq_false e)⟩
theorem NIf.decY {c : Prop} {_ : Decidable c} {p q : Prop} (hc : c) (h : p) : NIf (decide c) p q := NIf.yes (decide_eq_true hc) h
theorem NIf.decN {c : Prop} {_ : Decidable c} {p q : Prop} (hc : ¬ c) (h : q) : NIf (decide c) p q := NIf.no (decide_eq_false hc) h
theorem NIf.not_ {b : Bool} {p q : Prop} (h : NIf b q p) : NIf (!b) p q := by
  rw [NIf_iff] at h ⊢
  cases b
  · exact ⟨fun _ => h.2 rfl, fun e => absurd e (by decide)⟩
  · exact ⟨fun e => absurd e (by decide), fun _ => h.1 rfl⟩
/-! ### Numbers that fit -/
theorem wrap_i64 {x : Int} (h1 : -9223372036854775808 ≤ x) (h2 : x ≤ 9223372036854775807) : IntKind.i64.wrap x = x := IntWalk.i64_in x ⟨h1, h2⟩
theorem NV.i64 {x : Int} {K : Int → Prop} (h1 : -9223372036854775808 ≤ x ∧ x ≤ 9223372036854775807) (h : K x) : NV (IntKind.i64.wrap x) K := NV.eq (wrap_i64 h1.1 h1.2) h
theorem Fit1.int {k : IntKind} {a b : Int} (h : a = b) : Fit1 (.int k a) (.int k b) := .inr ⟨by simp, by rw [h]⟩
theorem Fit1.bool {a b : Bool} (h : a = b) : Fit1 (.bool a) (.bool b) := .inr ⟨by simp, by rw [h]⟩
theorem Fit1.str {a b : List UInt8} (h : a = b) : Fit1 (.str a) (.str b) := .inr ⟨by simp, by rw [h]⟩
theorem Fit1.ptr {i j : Nat} {a b : Addr} {o p : Nat} (h : a = b) (ho : o = p) : Fit1 (.ptr i a o) (.ptr j b p) := .inr ⟨by simp, by rw [h, ho]; rfl⟩
theorem Fit1.nil_sl {i : Nat} : Fit1 (.raw (.slice none 0 0)) (.sl i (.slice none 0 0) 0) := .inr ⟨by simp, rfl⟩
theorem Fit1.same {x y : AV} (h : x ≠ .any) (e : x = y) : Fit1 x y := .inr ⟨h, by rw [e]⟩
theorem FitsSl.nil : FitsSl [] [] := trivial
theorem FitsSl.cons {x y : AV} {xs ys : List AV} (h : Fit1 x y) (hs : FitsSl xs ys) : FitsSl (x :: xs) (y :: ys) := ⟨h, hs⟩
theorem FitsSl.any {x : AV} {xs ys : List AV} (hs : FitsSl xs ys) : FitsSl (x :: xs) (.any :: ys) := ⟨.inl rfl, hs⟩

theorem MemFits.rfl_ (m : List Blk) : MemFits m m := fun _ h => ⟨h, fun _ hb => hb, fun _ hb => hb⟩
theorem MemFits.eq {m m' : List Blk} (e : m = m') : MemFits m m' := e ▸ MemFits.rfl_ m
theorem MemFits.trans {a b c : List Blk} (h : MemFits a b) (k : MemFits b c) : MemFits a c := fun w hm => ⟨(k w (h w hm).1).1, fun x hx => (h w hm).2.1 x ((k w (h w hm).1).2.1 x hx), fun x hx => (h w hm).2.2 x ((k w (h w hm).1).2.2 x hx)⟩
/-- Blocks at the end are let go. -/
theorem MemFits.drop (m x : List Blk) : MemFits (m ++ x) m := fun _ h =>
  ⟨⟨fun k hk => h.holds k (List.mem_append_left _ hk), (List.pairwise_append.1 h.sep).1⟩, fun _ ⟨k, hk, h1, h2⟩ => ⟨k, List.mem_append_left _ hk, h1, h2⟩, fun _ ⟨k, hk, h1⟩ => ⟨k, List.mem_append_left _ hk, h1⟩⟩
/-- A nil slice is a row of nothing. -/
theorem MemFits.nilRow (m : List Blk) (t : TypeId) (sz : Nat) : MemFits m (m ++ [⟨⟨0, 0, none⟩, [], .row (.slice none 0 0) t sz 0⟩]) := fun w h =>
  ⟨h.push (Nat.le_refl _) (fun _ _ _ _ => rfl) ⟨World.ownsRow_nil w 0 t sz, rfl⟩ (fun b hb => by simp [Blk.foot, Blk.bn, Value.ownBlock] at hb),
    fun b hb => (wrs_push hb).elim id fun e => by simp [Blk.foot, Blk.bn, Value.ownBlock] at e, fun b hb => (foots_push hb).elim id fun e => by simp [Blk.foot, Blk.bn, Value.ownBlock] at e⟩

/-- A loop by a state of letters. -/
theorem NLoop.by {body : List AV → List Blk → Post → Prop} {sl : List AV} {m : List Blk} {Q : Post} {α : Type} (ok : α → Prop) (s : α → List AV) (mm : α → List Blk) (μ : α → Nat)
    (hin : (∃ w, MemOk m w) → ∃ x, ok x ∧ FitsSl sl (s x) ∧ MemFits m (mm x))
    (hround : ∀ x, ok x → body (s x) (mm x) fun e sl' m' =>
      match e with
      | .normal => KnowP m' (∃ x', ok x' ∧ μ x' < μ x ∧ FitsSl sl' (s x') ∧ MemFits m' (mm x'))
      | e => Q e sl' m') : NLoop body sl m Q := by
  unfold NLoop
  exact .inl ⟨α, ok, s, mm, μ, hin, hround⟩
theorem NLoop.rounds {body : List AV → List Blk → Post → Prop} {sl : List AV} {m : List Blk} {Q : Post} (n : Nat) (h : roundsK body Q n sl m) : NLoop body sl m Q := by
  unfold NLoop
  exact .inr ⟨n, h⟩


/-! ### What is read alone -/
theorem NLd.of {F : Heap} {a : Addr} {u : Value} {K : Value → Prop} (h : F.c a u) (hK : K u) : NLd F a K := NLd_iff.2 ⟨u, h, hK⟩
theorem SlOk.nil : SlOk (.slice none 0 0) 0 := ⟨none, 0, rfl, Nat.le_refl _, fun _ => rfl⟩
/-- A slice that lies among what is read alone: each element is told by its cells. -/
structure RowF {α : Type} (F : Heap) (sz : Nat) (R : α → List Value → Prop) (v : Value) (l : List α) : Prop where
  ok : SlOk v l.length
  at_ : ∀ k x, l[k]? = some x → ∃ vs, R x vs ∧ vs.length = sz ∧ CellsF F (addrOf v) (k * sz) vs
theorem CellsF.mono {F G : Heap} (hFG : F.le G) {a : Addr} : ∀ {o : Nat} {vs : List Value}, CellsF F a o vs → CellsF G a o vs
  | _, [], _ => trivial
  | _, _ :: _, h => ⟨hFG.c _ _ h.1, CellsF.mono hFG h.2⟩
theorem RowF.mono {α : Type} {F G : Heap} (hFG : F.le G) {sz : Nat} {R R' : α → List Value → Prop} (hR : ∀ x vs, R x vs → R' x vs) {v : Value} {l : List α} (h : RowF F sz R v l) : RowF G sz R' v l :=
  ⟨h.ok, fun k x hx => by obtain ⟨vs, h1, h2, h3⟩ := h.at_ k x hx; exact ⟨vs, hR x vs h1, h2, h3.mono hFG⟩⟩
theorem RowF.nil {α : Type} {F : Heap} {sz : Nat} {R : α → List Value → Prop} : RowF F sz R (.slice none 0 0) [] := ⟨SlOk.nil, fun k x hx => by simp at hx⟩
/-- What is so of the blocks may be used ahead of a call. (The first contract is any one of the function's.) -/
theorem NCall.when {P : Program} {f : FuncId} {args args0 : List AV} {m m0 : List Blk} {K K0 : AV → List Blk → Prop} (h0 : NCall P f args0 m0 K0) (h : (∃ w, MemOk m w) → NCall P f args m K) : NCall P f args m K := by
  rw [NCall_iff] at h0 ⊢
  exact ⟨h0.1, fun w hm => (NCall_iff.1 (h ⟨w, hm⟩)).2 w hm⟩
theorem NCall.isF {P : Program} (f : FuncId) {args : List AV} {m : List Blk} {K : AV → List Blk → Prop} (h : NCall P f args m K) : NCall P f args m K := h
theorem NCall.subE {P : Program} {f : FuncId} {args : List AV} {m : List Blk} {K : AV → List Blk → Prop} {v : AV} {bs : List Blk} (idx : List Nat) {args' : List AV} {mL : List Blk} (h : NCall P f args' mL fun r m => r = v ∧ m = bs) (hargs : denL args' = denL args)
    (hn : idx.Nodup) (hmL : idx.map (fun i => m[i]?) = mL.map some) (hl : Nat.ble idx.length bs.length = true) (hK : repK m idx bs (K v)) : NCall P f args m K :=
  NCall.subw idx args' mL h hargs hn hmL fun r b hr => by
    obtain ⟨rfl, rfl⟩ := hr
    exact ⟨Nat.le_of_ble_eq_true hl, _, rfl, hK⟩
theorem NCall.pureE {P : Program} {f : FuncId} {args : List AV} {m : List Blk} {K : AV → List Blk → Prop} {v : AV} (h : NCall P f args [] fun r _ => r = v) (hK : K v m) : NCall P f args m K :=
  NCall.pure h fun r _ e => ⟨v, by rw [e], hK⟩
/-- What a contract hands back, and what is so wherever such blocks lie. -/
theorem NCall.know {P : Program} {f : FuncId} {args : List AV} {m : List Blk} {K K' : AV → List Blk → Prop} (h : NCall P f args m K)
    (hk : ∀ r m', K r m' → (∃ w, MemOk m' w) → ∃ r' m'', r'.den = r.den ∧ MemFits m' m'' ∧ K' r' m'') : NCall P f args m K' := by
  rw [NCall_iff] at h ⊢
  refine ⟨h.1, fun w hm => (h.2 w hm).mono fun e w' hq => ?_⟩
  obtain ⟨r, m', h1, rfl, h3, h4, h5⟩ := hq
  obtain ⟨r', m'', h6, h7, h8⟩ := hk r m' h1 ⟨w', h3⟩
  exact ⟨r', m'', h8, by rw [h6], (h7 w' h3).1, h4, fun b hb => h5.1 b ((h7 w' h3).2.1 b hb), fun b hb => h5.2 b ((h7 w' h3).2.2 b hb)⟩
theorem MemOk.row {m : List Blk} {a : Addr} {cs : List AV} {v : Value} {t : TypeId} {sz n : Nat} {w : World} (h : MemOk m w) (hm : ⟨a, cs, .row v t sz n⟩ ∈ m) : SlOk v n ∧ cs.length = n * sz ∧ slOf v = v := by
  obtain ⟨h1, A, cap, rfl, h3, h4, _⟩ := (h.holds _ hm).sl (.inl ⟨t, rfl⟩)
  exact ⟨⟨A, cap, rfl, h3, h4⟩, h1, rfl⟩
theorem CellsF.sub {F : Heap} {a : Addr} : ∀ {o : Nat} {vs : List Value} (i n : Nat), CellsF F a o vs → CellsF F a (o + i) ((vs.drop i).take n)
  | _, _, _, 0, _ => by rw [List.take_zero]; trivial
  | _, [], _, _ + 1, _ => by simp [CellsF]
  | o, v :: vs, 0, n + 1, h => by
    rw [List.drop_zero, List.take_succ_cons]
    exact ⟨h.1, by simpa using CellsF.sub 0 n h.2⟩
  | o, v :: vs, i + 1, n + 1, h => by
    have := CellsF.sub i (n + 1) h.2
    rw [show o + (i + 1) = o + 1 + i from by omega]
    simpa using this
theorem flat_at {α β : Type} {enc : α → List β} {sz : Nat} : ∀ {l : List α} {k : Nat} {x : α}, (∀ y ∈ l, (enc y).length = sz) → l[k]? = some x → ((l.flatMap enc).drop (k * sz)).take sz = enc x
  | [], _, _, _, h => by simp at h
  | y :: l, 0, x, hl, h => by
    simp at h; subst h
    have := hl y (by simp)
    simp [List.take_append_of_le_length (Nat.le_of_eq this.symm), List.take_of_length_le (Nat.le_of_eq this)]
  | y :: l, k + 1, x, hl, h => by
    have h1 := hl y (by simp)
    have := flat_at (l := l) (k := k) (x := x) (fun z hz => hl z (by simp [hz])) (by simpa using h)
    rw [← this, List.flatMap_cons, Nat.add_mul, Nat.one_mul, Nat.add_comm, ← List.drop_drop, ← h1, List.drop_left]
/-- A row that lies among what is read alone. -/
theorem rowF_new {α : Type} {F : Heap} {enc : α → List Value} {sz : Nat} {v : Value} {l : List α} {vs : List Value} (hok : SlOk v l.length) (he : vs = l.flatMap enc) (hl : ∀ x ∈ l, (enc x).length = sz) :
    RowF (addF F (addrOf v) vs) sz (fun x us => us = enc x) v l := by
  refine ⟨hok, fun k x hx => ⟨_, rfl, hl x (List.mem_of_getElem? hx), ?_⟩⟩
  have := (addF.new (F := F) (a := addrOf v) (vs := vs)).sub (k * sz) sz
  rw [Nat.zero_add, he, flat_at hl hx] at this
  rw [he]
  exact this
/-- A contract that writes nothing: all stays. -/
theorem NCall.keep {P : Program} {f : FuncId} {args args' : List AV} {m mL : List Blk} {K KL : AV → List Blk → Prop} (h : NCall P f args' mL KL) (hargs : denL args' = denL args) (hm : MemFits m mL) (hw : mL.all (fun k => !k.wr) = true)
    (hK : ∀ r mL', KL r mL' → ∃ r', r'.den = r.den ∧ K r' m) : NCall P f args m K := by
  have hno : ∀ b, ¬ wrs mL b := fun b ⟨k, hk, h1, _⟩ => by
    have := List.all_eq_true.1 hw k hk
    rw [h1] at this
    cases this
  refine h.frame hargs (fun w hw' => ⟨(hm w hw').1, fun b hb => (hno b hb).elim⟩) fun r mL' hr => ?_
  obtain ⟨r', h1, h2⟩ := hK r mL' hr
  exact ⟨r', m, h1, h2, fun w w' h3 _ hf _ => ⟨h3.keep hf.size fun k hk b hb => hf.block b ((h3.holds k hk).lt hb) (hno b), Fresh.self m w⟩⟩
/-- A row of one's own is read as what is read alone. -/
theorem NCall.frozen {α : Type} {P : Program} {f : FuncId} {args args' args0 : List AV} {m m0 : List Blk} {K K0 : AV → List Blk → Prop} {F : Heap} {v : Value} {l : List α} {cs : List AV} {t : TypeId} {sz n : Nat} (enc : α → List Value)
    (h0 : NCall P f args0 m0 K0) (hargs : denL args' = denL args) (hm : MemFits m [hpB F, ⟨addrOf v, cs, .row v t sz n⟩]) (hn : n = l.length) (hcs : denL cs = l.flatMap enc) (hl : ∀ x ∈ l, (enc x).length = sz)
    (h : ∀ G, F.le G → RowF G sz (fun x us => us = enc x) v l → NCall P f args' [hpB G] fun r _ => K r m) : NCall P f args m K := by
  refine NCall.when h0 fun ⟨w, hw⟩ => ?_
  have hok := ((hm w hw).1.row (List.mem_cons_of_mem _ (List.mem_singleton.2 rfl))).1
  subst hn
  refine NCall.keep (h (addF F (addrOf v) (denL cs)) addF.old (rowF_new hok hcs hl)) hargs (hm.trans (MemFits.freeze (m := []))) rfl fun r _ hr => ⟨r, rfl, hr⟩

/-! ### Steps: one statement at a time, what follows behind a letter -/
def thenS (P : Program) (b : Code) (Q : Post) : Post := fun e sl m => match e with
  | .normal => codeK P b sl m Q
  | e => Q e sl m
def blockS (id : Nat) (Q : Post) : Post := fun e sl m => match e with
  | .exit j => match Nat.decEq j id with
    | .isTrue _ => Q .normal sl m
    | .isFalse _ => Q (.exit j) sl m
  | e => Q e sl m
def normS (Q : Post) : List AV → List Blk → Prop := fun sl m => Q .normal sl m
def retS (P : Program) (fn : Func) (R : AV → List Blk → Prop) : Post := fun e sl m => match e with
  | .normal => resK P m sl fn.results.toList fun xs => retK xs fun r => R r m
  | .ret => resK P m sl fn.results.toList fun xs => retK xs fun r => R r m
  | _ => False
def roundS {α : Type} (ok : α → Prop) (s : α → List AV) (mm : α → List Blk) (μ : α → Nat) (x : α) (Q : Post) : Post := fun e sl m => match e with
  | .normal => KnowP m (∃ x', ok x' ∧ μ x' < μ x ∧ FitsSl sl (s x') ∧ MemFits m (mm x'))
  | e => Q e sl m
section
variable {P : Program} {Q : Post} {sl : List AV} {m : List Blk} {a b c : Code} {id j : Nat}
theorem z33 {fn : Func} {c : Code} {args : List AV} {R : AV → List Blk → Prop} (hb : fn.body = some c) (h : ∀ K : List AV → Prop, (∀ sl, codeK P c sl m (retS P fn R) → K sl) → argK args fn.ntmps K) : funcK P fn args m R := by
  unfold funcK
  rw [hb]
  exact h _ fun _ h => h
theorem z3 (h : codeK P a sl m (thenS P b Q)) : codeK P (.seq a b) sl m Q := h
theorem z5 (h : codeK P a sl m (blockS id Q)) : codeK P (.block id a) sl m Q := h
theorem z4 {l : List Oper} (h : opsK P l.toArray l sl m (normS Q)) : codeK P (.region id l.toArray false) sl m Q := by
  simp only [codeK]
  exact h
theorem z35 {l : List Oper} (h1 : P.follows .mixedOrders = true) (n : Nat) (hn : l.length = n) (h : NOrd P l n [] sl m (normS Q)) : codeK P (.region id l.toArray true) sl m Q := by
  simp only [codeK]
  exact ndraw_ord h1 n hn h
theorem z6 (h : Q .normal sl m) : codeK P .skip sl m Q := h
theorem z7 (h : Q (.exit id) sl m) : codeK P (.exit id) sl m Q := h
theorem z8 (h : Q .ret sl m) : codeK P .ret sl m Q := h
theorem z29 {o : Operand} (h : ∀ A B : Prop, (codeK P a sl m Q → A) → (codeK P b sl m Q → B) → evK sl o fun v => match v with
    | .bool x => NIf x A B
    | _ => False) : codeK P (.cond o a b) sl m Q := h _ _ (fun h => h) (fun h => h)
theorem st_loop {α : Type} (ok : α → Prop) (s : α → List AV) (mm : α → List Blk) (μ : α → Nat) (x : α) (hx : ok x) (hs : FitsSl sl (s x)) (hm : MemFits m (mm x))
    (hround : ∀ x, ok x → codeK P a (s x) (mm x) (roundS ok s mm μ x Q)) : codeK P (.loop a) sl m Q := NLoop.by ok s mm μ (fun _ => ⟨x, hx, hs, hm⟩) hround
def moreS (P : Program) (a : Code) (n : Nat) (Q : Post) : Post := fun e sl m => match e with
  | .normal => roundsK (codeK P a) Q n sl m
  | e => Q e sl m
theorem st_rounds (n : Nat) (h : codeK P a sl m (moreS P a n Q)) : codeK P (.loop a) sl m Q := NLoop.rounds (n + 1) h
theorem z21 {n : Nat} (h : codeK P a sl m (moreS P a n Q)) : moreS P a (n + 1) Q .normal sl m := h
theorem z22 {n : Nat} (h : Q (.exit j) sl m) : moreS P a n Q (.exit j) sl m := h
theorem z23 {n : Nat} (h : Q .ret sl m) : moreS P a n Q .ret sl m := h
theorem z2 (h : codeK P b sl m Q) : thenS P b Q .normal sl m := h
theorem z11 (h : Q (.exit j) sl m) : thenS P b Q (.exit j) sl m := h
theorem z12 (h : Q .ret sl m) : thenS P b Q .ret sl m := h
theorem z9 (h : Q .normal sl m) : blockS id Q .normal sl m := h
theorem z13 (h : Q .ret sl m) : blockS id Q .ret sl m := h
theorem z10 (h : Q .normal sl m) : blockS id Q (.exit id) sl m := by
  unfold blockS
  split
  · rename_i heq; injection heq with heq; subst heq
    split
    · exact h
    · rename_i hn _; exact (hn rfl).elim
  · rename_i hn; exact (hn id rfl).elim
theorem gR {P : Program} {fn : Func} {R : AV → List Blk → Prop} {e : Exit} {sl : List AV} {m : List Blk} (h : retS P fn R e sl m) : retS P fn R e sl m := h
theorem gF {P : Program} {fn : Func} {args : List AV} {m : List Blk} {R : AV → List Blk → Prop} (h : funcK P fn args m R) : funcK P fn args m R := h
theorem z1 (h : Q .normal sl m) : normS Q sl m := h
theorem z31 {fn : Func} {R : AV → List Blk → Prop} {rs : List ResultVar} (hr : fn.results.toList = rs) (h : ∀ K : AV → Prop, (∀ r, R r m → K r) → resK P m sl rs fun xs => retK xs K) : retS P fn R .ret sl m := by
  show resK P m sl fn.results.toList _
  rw [hr]
  exact h _ fun _ h => h
theorem z32 {fn : Func} {R : AV → List Blk → Prop} {rs : List ResultVar} (hr : fn.results.toList = rs) (h : ∀ K : AV → Prop, (∀ r, R r m → K r) → resK P m sl rs fun xs => retK xs K) : retS P fn R .normal sl m := by
  show resK P m sl fn.results.toList _
  rw [hr]
  exact h _ fun _ h => h
section
variable {α : Type} {ok : α → Prop} {s : α → List AV} {mm : α → List Blk} {μ : α → Nat} {x : α}
theorem st_round (x' : α) (h1 : ok x') (h2 : μ x' < μ x) (h3 : FitsSl sl (s x')) (h4 : MemFits m (mm x')) : roundS ok s mm μ x Q .normal sl m := KnowP.mk fun _ => ⟨x', h1, h2, h3, h4⟩
theorem z19 (h : Q (.exit j) sl m) : roundS ok s mm μ x Q (.exit j) sl m := h
theorem z20 (h : Q .ret sl m) : roundS ok s mm μ x Q .ret sl m := h
end
section
variable {ops : Array Oper} {o : Oper} {rest : List Oper} {k : List AV → List Blk → Prop}
theorem z0 (h : k sl m) : opsK P ops [] sl m k := h
theorem z25 {d : Option Tmp} {op : Op} {t : TypeId} {p : String} {e : Array Edge} (h : ∀ K : List AV → List Blk → Prop, (∀ sl m, opsK P ops rest sl m k → K sl m) → opM P sl m op fun v m' => dstK sl d v fun sl' => K sl' m') :
    opsK P ops (⟨d, op, t, p, e, none⟩ :: rest) sl m k := h _ fun _ _ h => h
theorem z26 {d : Option Tmp} {op : Op} {t : TypeId} {p : String} {e : Array Edge} {g : Nat × Bool} (h : ∀ K : List AV → List Blk → Prop, (∀ sl m, opsK P ops rest sl m k → K sl m) → guardK ops sl g.1 g.2 (opM P sl m op fun v m' => dstK sl d v fun sl' => K sl' m') (dstK sl d (.raw undef) fun sl' => K sl' m)) :
    opsK P ops (⟨d, op, t, p, e, some g⟩ :: rest) sl m k := h _ fun _ _ h => h
end
end

/-! ### A loop's state, told by what turns -/
/-- What becomes of a slot: it stays, it is let go, it is said. -/
inductive Up where
  | keep | drop | set (v : AV)
def autoL : List AV → List Up → List AV
  | x :: xs, .keep :: us => x :: autoL xs us
  | _ :: xs, .drop :: us => .any :: autoL xs us
  | _ :: xs, .set v :: us => v :: autoL xs us
  | _, _ => []
/-- What becomes of a block. -/
inductive UpB where
  | keep | cells (cs : List AV) | set (b : Blk)
def autoM : List Blk → List UpB → List Blk
  | b :: m, .keep :: us => b :: autoM m us
  | b :: m, .cells cs :: us => { b with cs := cs } :: autoM m us
  | _ :: m, .set b :: us => b :: autoM m us
  | [], .set b :: us => b :: autoM [] us
  | m, [] => m
  | [], _ :: us => autoM [] us
def autoK : List AV → List Up → (List AV → Prop) → Prop
  | x :: xs, .keep :: us, k => autoK xs us fun ys => k (x :: ys)
  | _ :: xs, .drop :: us, k => autoK xs us fun ys => k (.any :: ys)
  | _ :: xs, .set v :: us, k => autoK xs us fun ys => k (v :: ys)
  | _, _, k => k []
def autoMK : List Blk → List UpB → (List Blk → Prop) → Prop
  | b :: m, .keep :: us, k => autoMK m us fun ys => k (b :: ys)
  | b :: m, .cells cs :: us, k => autoMK m us fun ys => k ({ b with cs := cs } :: ys)
  | _ :: m, .set b :: us, k => autoMK m us fun ys => k (b :: ys)
  | [], .set b :: us, k => autoMK [] us fun ys => k (b :: ys)
  | m, [], k => k m
  | [], _ :: us, k => autoMK [] us k
theorem autoK_spec : ∀ (xs : List AV) (us : List Up) {k : List AV → Prop}, autoK xs us k → k (autoL xs us)
  | x :: xs, .keep :: us, k, h => autoK_spec xs us (k := fun ys => k (x :: ys)) h
  | _ :: xs, .drop :: us, k, h => autoK_spec xs us (k := fun ys => k (.any :: ys)) h
  | _ :: xs, .set v :: us, k, h => autoK_spec xs us (k := fun ys => k (v :: ys)) h
  | [], [], _, h => h
  | [], _ :: _, _, h => h
  | _ :: _, [], _, h => h
theorem autoMK_spec : ∀ (us : List UpB) (m : List Blk) {k : List Blk → Prop}, autoMK m us k → k (autoM m us)
  | .keep :: us, b :: m, k, h => autoMK_spec us m (k := fun ys => k (b :: ys)) h
  | .cells cs :: us, b :: m, k, h => autoMK_spec us m (k := fun ys => k ({ b with cs := cs } :: ys)) h
  | .set b :: us, _ :: m, k, h => autoMK_spec us m (k := fun ys => k (b :: ys)) h
  | .set b :: us, [], k, h => autoMK_spec us [] (k := fun ys => k (b :: ys)) h
  | [], [], _, h => h
  | [], _ :: _, _, h => h
  | .keep :: us, [], _, h => autoMK_spec us [] h
  | .cells _ :: us, [], _, h => autoMK_spec us [] h
theorem st_auto {P : Program} {Q : Post} {sl : List AV} {m : List Blk} {a : Code} {α : Type} (ok : α → Prop) (us : α → List Up) (ms : α → List UpB) (μ : α → Nat) (x : α) (hx : ok x) (hs : FitsSl sl (autoL sl (us x))) (hm : MemFits m (autoM m (ms x)))
    (hround : ∀ x, ok x → ∀ K : List AV → List Blk → Prop, (∀ sl' m', codeK P a sl' m' (roundS ok (fun x => autoL sl (us x)) (fun x => autoM m (ms x)) μ x Q) → K sl' m') → autoK sl (us x) fun sl' => autoMK m (ms x) fun m' => K sl' m') : codeK P (.loop a) sl m Q :=
  st_loop ok (fun x => autoL sl (us x)) (fun x => autoM m (ms x)) μ x hx hs hm fun y hy => by
    have h := hround y hy (fun sl' m' => codeK P a sl' m' (roundS ok (fun x => autoL sl (us x)) (fun x => autoM m (ms x)) μ y Q)) fun _ _ h => h
    exact autoMK_spec _ _ (autoK_spec _ _ h)
/-- A variable's block, as what is read alone from now on. -/
theorem MemFits.freezeVar {F : Heap} {a : Addr} {cs : List AV} {t : TypeId} {m : List Blk} : MemFits (hpB F :: ⟨a, cs, .var t⟩ :: m) (hpB (addF F a (denL cs)) :: m) := fun w hm => by
  have h1 := hm.holds (hpB F) (by simp)
  have h2 := hm.holds ⟨a, cs, .var t⟩ (by simp)
  have hs := hm.sep
  simp only [List.pairwise_cons] at hs
  have hf : ∀ b, (hpB (addF F a (denL cs))).foot b → (hpB F).foot b ∨ (⟨a, cs, .var t⟩ : Blk).foot b := by
    rintro b (⟨x, u, hu, rfl⟩ | ⟨o, ho⟩)
    · rcases hu with hu | ⟨j, rfl, hj⟩
      · exact .inl (.inl ⟨x, u, hu, rfl⟩)
      · exact .inr (by rw [block_of_add]; rfl)
    · exact .inl (.inr ⟨o, ho⟩)
  refine ⟨⟨fun k hk => ?_, ?_⟩, fun b ⟨k, hk, hw, hb⟩ => ?_, fun b ⟨k, hk, hb⟩ => ?_⟩
  · rcases List.mem_cons.1 hk with rfl | hk
    · refine ⟨rfl, fun b u hu => ?_, fun b o ho => h1.2.2 b o ho⟩
      rcases hu with hu | ⟨j, rfl, hj⟩
      · exact h1.2.1 b u hu
      · rw [denL_getElem?] at hj
        cases hx : cs[j]? with
        | none => rw [hx] at hj; cases hj
        | some x =>
          rw [hx] at hj
          injection hj with hj
          have h4 := h2.cell hx
          rw [← hj]
          refine ⟨?_, h4⟩
          rw [block_of_add]
          exact h2.lt (b := a.block) rfl
    · exact hm.holds k (by simp [hk])
  · rw [List.pairwise_cons]
    refine ⟨fun y hy hw b hb1 hb2 => ?_, hs.2.2⟩
    have hyw : y.wr = true := by
      rcases hw with hw | hw
      · cases hw
      · exact hw
    rcases hf b hb1 with h | h
    · exact hs.1 y (by simp [hy]) (.inr hyw) b h hb2
    · exact hs.2.1 y hy (.inr hyw) b h hb2
  · rcases List.mem_cons.1 hk with rfl | hk
    · cases hw
    · exact ⟨k, by simp [hk], hw, hb⟩
  · rcases List.mem_cons.1 hk with rfl | hk
    · rcases hf b hb with h | h
      · exact ⟨_, by simp, h⟩
      · exact ⟨⟨a, cs, .var t⟩, by simp, h⟩
    · exact ⟨k, by simp [hk], hb⟩

theorem Blk.holds_congr {k k' : Blk} {w : World} (ha : k.a = k'.a) (hc : denL k.cs = denL k'.cs) (hk : k.kind = k'.kind) (h : k.holds w) : k'.holds w := by
  obtain ⟨a, cs, kind⟩ := k
  obtain ⟨a', cs', kind'⟩ := k'
  dsimp only at ha hc hk
  subst ha hk
  have hl : cs.length = cs'.length := by have := congrArg List.length hc; simpa [denL_length] using this
  cases kind with
  | var t => exact ⟨h.1, h.2.1, by rw [← hc]; exact h.2.2⟩
  | row v t sz n => exact ⟨by rw [← hc]; exact h.1, h.2⟩
  | ro v sz n =>
    obtain ⟨h1, A, cap, h2, h3, h4, h5⟩ := h
    exact ⟨hl ▸ h1, A, cap, h2, h3, h4, fun hn => ⟨(h5 hn).1, (h5 hn).2.1, by rw [← hc]; exact (h5 hn).2.2⟩⟩
  | heap F =>
    obtain ⟨h1, h2⟩ := h
    refine ⟨?_, h2⟩
    dsimp only at h1
    subst h1
    exact List.eq_nil_of_length_eq_zero hl.symm
  | obj o =>
    obtain ⟨h1, h2⟩ := h
    refine ⟨?_, h2⟩
    dsimp only at h1
    subst h1
    exact List.eq_nil_of_length_eq_zero hl.symm
  | res R =>
    obtain ⟨h1, h2⟩ := h
    refine ⟨?_, h2⟩
    dsimp only at h1
    subst h1
    exact List.eq_nil_of_length_eq_zero hl.symm
/-- The same blocks, their cells told otherwise. -/
theorem MemFits.congr {m m' : List Blk} (h : m.map (fun k => (k.a, denL k.cs, k.kind)) = m'.map fun k => (k.a, denL k.cs, k.kind)) : MemFits m m' := fun w hm => by
  have hlen : m.length = m'.length := by simpa using congrArg List.length h
  have hat : ∀ (i : Nat) (k' : Blk), m'[i]? = some k' → ∃ k, m[i]? = some k ∧ k.a = k'.a ∧ denL k.cs = denL k'.cs ∧ k.kind = k'.kind := fun i k' hk => by
    have e := congrArg (fun l => l[i]?) h
    simp only [List.getElem?_map, hk, Option.map_some] at e
    rcases hi : m[i]? with _ | k
    · rw [hi] at e; cases e
    · rw [hi] at e
      simp only [Option.map_some, Option.some.injEq, Prod.mk.injEq] at e
      exact ⟨k, rfl, e.1, e.2.1, e.2.2⟩
  have hfoot : ∀ {k k' : Blk}, k.a = k'.a → k.kind = k'.kind → k.wr = k'.wr ∧ k.bn = k'.bn ∧ ∀ b, k.foot b ↔ k'.foot b := fun {k k'} h1 h2 => by
    obtain ⟨a, cs, kind⟩ := k
    obtain ⟨a', cs', kind'⟩ := k'
    dsimp only at h1 h2
    subst h1 h2
    exact ⟨rfl, rfl, fun b => Iff.rfl⟩
  refine ⟨⟨fun k' hk' => ?_, sep_of fun i j x y hij hx hy => ?_⟩, fun b ⟨k', hk', hw, hb⟩ => ?_, fun b ⟨k', hk', hb⟩ => ?_⟩
  · obtain ⟨i, hi⟩ := List.getElem?_of_mem hk'
    obtain ⟨k, h1, h2, h3, h4⟩ := hat i k' hi
    exact Blk.holds_congr h2 h3 h4 (hm.holds k (List.mem_of_getElem? h1))
  · obtain ⟨x', h1, h2, _, h4⟩ := hat i x hx
    obtain ⟨y', h5, h6, _, h8⟩ := hat j y hy
    obtain ⟨a1, _, a3⟩ := hfoot h2 h4
    obtain ⟨b1, _, b3⟩ := hfoot h6 h8
    intro hww b hb1 hb2
    exact sep_at hm.sep (by omega) h1 h5 (by rw [a1, b1]; exact hww) b ((a3 b).2 hb1) ((b3 b).2 hb2)
  · obtain ⟨i, hi⟩ := List.getElem?_of_mem hk'
    obtain ⟨k, h1, h2, _, h4⟩ := hat i k' hi
    obtain ⟨a1, _, a2⟩ := hfoot h2 h4
    exact ⟨k, List.mem_of_getElem? h1, by rw [a1]; exact hw, (a2 b).2 hb⟩
  · obtain ⟨i, hi⟩ := List.getElem?_of_mem hk'
    obtain ⟨k, h1, h2, _, h4⟩ := hat i k' hi
    exact ⟨k, List.mem_of_getElem? h1, ((hfoot h2 h4).2.2 b).2 hb⟩
theorem MemFits.pre {m m' : List Blk} (n : Nat) (e : m.take n = m') : MemFits m m' := by
  subst e
  have := MemFits.drop (m.take n) (m.drop n)
  rwa [List.take_append_drop] at this

end Go.Sx

namespace Go.Sx
open Go.RowKit Go.ChangeShapes Go.WideShapes

/-- What data of a type look like. -/
inductive Sch where
  | int (k : IntKind)
  | bool
  | str
  | sl (e : Sch)
  | unit
  | pair (a b : Sch)

def Sch.size : Sch → Nat
  | .unit => 0
  | .pair a b => a.size + b.size
  | _ => 1
def Sch.ok (F : Heap) : Sch → List Value → Prop
  | .int k, vs => ∃ n, vs = [.int k n] ∧ (Lit.int k n).wf = true
  | .bool, vs => ∃ b, vs = [.bool b]
  | .str, vs => ∃ s : List UInt8, vs = [.string ⟨s.toArray⟩] ∧ s.length ≤ 9223372036854775807
  | .sl e, vs => ∃ v n, vs = [v] ∧ SlOk v n ∧ n ≤ 9223372036854775807 ∧ ∀ i, i < n → ∃ cs, cs.length = e.size ∧ CellsF F (addrOf v) (i * e.size) cs ∧ e.ok F cs
  | .unit, vs => vs = []
  | .pair a b, vs => ∃ x y, vs = x ++ y ∧ x.length = a.size ∧ a.ok F x ∧ b.ok F y
def repS (s : Sch) : Nat → Sch
  | 0 => .unit
  | n + 1 => .pair s (repS s n)
def schF (P : Program) (g : TypeId → Option Sch) : List Field → Nat → Option Sch
  | [], _ => some .unit
  | f :: fs, o => match g f.type with
    | some s => match f.offset == o, P.cellsOf f.type == s.size, schF P g fs (o + s.size) with
      | true, true, some r => some (.pair s r)
      | _, _, _ => none
    | none => none
/-- A type's look, reckoned. -/
def schT (P : Program) : Nat → TypeId → Option Sch
  | 0, _ => none
  | n + 1, t => match P.underlying t with
    | some (.int k) => some (.int k)
    | some .bool => some .bool
    | some .string => some .str
    | some (.slice e) => match schT P n e with
      | some s => if P.cellsOf e = s.size then some (.sl s) else none
      | none => none
    | some (.struct fs) => match schF P (schT P n) fs.toList 0 with
      | some s => if P.cellsOf t = s.size then some s else none
      | none => none
    | some (.array m e) => match schT P n e with
      | some s => if P.cellsOf e = s.size ∧ P.cellsOf t = (repS s m).size then some (repS s m) else none
      | none => none
    | _ => none

/-- All that a world holds. -/
def cellsW (W : World) : Heap := ⟨fun a u => a.block < W.heap.size ∧ W.cell? a = some u, fun b o => W.heap[b]? = some o⟩
theorem cell_lt {w : World} {a : Addr} {u : Value} (h : w.cell? a = some u) : a.block < w.heap.size := by
  unfold World.cell? at h
  rcases Nat.lt_or_ge a.block w.heap.size with h1 | h1
  · exact h1
  · rw [Array.getElem?_eq_none h1] at h
    simp at h
theorem cellsF_of {W : World} {a : Addr} : ∀ (cs : List Value) (o : Nat), (∀ i u, cs[i]? = some u → W.cell? (a.add (o + i)) = some u) → CellsF (cellsW W) a o cs
  | [], _, _ => trivial
  | v :: cs, o, h => by
    have h0 := h 0 v rfl
    exact ⟨⟨cell_lt h0, h0⟩, cellsF_of cs (o + 1) fun i u hu => by
      have := h (i + 1) u (by simpa using hu)
      rwa [show o + (i + 1) = o + 1 + i from by omega] at this⟩
theorem memOk_heap (W : World) : MemOk [hpB (cellsW W)] W := ⟨fun k hk => by
  simp at hk
  subst hk
  exact ⟨rfl, fun _ _ h => h, fun _ _ h => h⟩, by simp⟩
theorem below_heap {F : Heap} {w w' : World} (h : Fr (wrs [hpB F]) w w') : Below w.heap.size w w' :=
  ⟨h.os, h.tape, h.output, h.size, fun k hk => h.block k hk (fun ⟨b, hb, hw, _⟩ => by
    simp at hb
    subst hb
    cases hw)⟩

section
variable {H : Type} {enc : TypeId × Value → H} {P : Program} {W : World} {spare : Nat → Bool} {held : Bool}
theorem Sch.of_trod : ∀ (N : Nat) (t : TypeId) (s : Sch) (fuel : Nat) (cs : List Value) (x : DataW H × List MemPlace), schT P N t = some s → DataW.trod enc P W 0 spare held fuel t cs = some x → cs.length = s.size ∧ s.ok (cellsW W) cs
  | 0, _, _, _, _, _, h, _ => by simp [schT] at h
  | N + 1, t, s, fuel, cs, x, h, hx => by
    unfold schT at h
    cases hu : P.underlying t with
    | none => simp [hu] at h
    | some kd =>
      rw [hu] at h
      cases kd <;> simp only [Option.some.injEq, reduceCtorEq] at h
      case bool =>
        subst h
        obtain ⟨b, rfl, _⟩ := DataW.trod_bool hu hx
        exact ⟨rfl, b, rfl⟩
      case int k =>
        subst h
        obtain ⟨n, rfl, _, hw⟩ := DataW.trod_int hu hx
        exact ⟨rfl, n, rfl, hw⟩
      case string =>
        subst h
        obtain ⟨b, rfl, _, hw⟩ := DataW.trod_string hu hx
        refine ⟨rfl, b.data.toList, by simp, ?_⟩
        simp only [maxLen, ByteArray.size] at hw
        simpa using hw
      case slice e =>
        split at h
        · rename_i s' hs'
          split at h
          · rename_i hc
            injection h with h
            subst h
            rcases DataW.trod_slice hu hx with ⟨rfl, _⟩ | ⟨a, len, cap, elems, rest, n, _, rfl, _, _, hl, hm, hlen, hel, _⟩
            · exact ⟨rfl, _, 0, rfl, SlOk.nil, Nat.zero_le _, fun i hi => absurd hi (Nat.not_lt_zero _)⟩
            · refine ⟨rfl, _, len, rfl, ⟨some a, cap, rfl, hl, by simp⟩, Nat.le_trans hl (by simpa only [maxLen] using hm), fun i hi => ?_⟩
              have h1 := hel i hi
              rw [List.getElem?_eq_getElem (by omega), Option.bind_eq_some_iff] at h1
              obtain ⟨cs', h2, h3⟩ := h1
              obtain ⟨h4, h5⟩ := Sch.of_trod N e s' n cs' _ hs' h3
              refine ⟨cs', h4, ?_, h5⟩
              obtain ⟨_, h6, h7⟩ := World.cells?_some h2
              rw [hc] at h7 h6
              refine cellsF_of cs' _ fun j u hj => ?_
              have := h7 j (by rw [← h6]; exact (List.getElem?_eq_some_iff.1 hj).1)
              rw [add_of_add] at this
              exact this.trans hj
          · cases h
        · cases h
      case struct fs =>
        split at h
        · rename_i s' hs'
          split at h
          · rename_i hc
            injection h with h
            subst h
            obtain ⟨xs, n, _, _, hlen, hxl, hf⟩ := DataW.trod_struct hu hx
            refine ⟨by rw [hlen, hc], ?_⟩
            have key : ∀ (l : List Field) (k o : Nat) (r : Sch), fs.toList.drop k = l → schF P (schT P N) l o = some r → o + r.size ≤ cs.length → r.ok (cellsW W) ((cs.drop o).take r.size) := by
              intro l
              induction l with
              | nil =>
                intro k o r _ h1 _
                simp only [schF, Option.some.injEq] at h1
                subst h1
                simp [Sch.ok, Sch.size]
              | cons f l ih =>
                intro k o r h0 h1 h2
                simp only [schF] at h1
                split at h1
                · rename_i sf hsf
                  split at h1
                  · rename_i r' h3 h4 h5
                    injection h1 with h1
                    subst h1
                    simp only [beq_iff_eq] at h3 h4
                    have hk : k < fs.toList.length := by
                      rcases Nat.lt_or_ge k fs.toList.length with h | h
                      · exact h
                      · rw [List.drop_of_length_le h] at h0; cases h0
                    have hfk : fs[k]? = some f := by
                      rw [List.drop_eq_getElem_cons hk] at h0
                      injection h0 with h0 _
                      rw [← h0]
                      simp at hk ⊢
                    have h6 := hf k f hfk
                    have hkx : k < xs.length := by rw [hxl]; simpa using hk
                    rw [List.getElem?_eq_getElem hkx] at h6
                    rw [h3, h4] at h6
                    obtain ⟨h7, h8⟩ := Sch.of_trod N f.type sf n _ _ hsf h6
                    simp only [Sch.size] at h2 ⊢
                    have h9 := ih (k + 1) (o + sf.size) r' (by rw [List.drop_eq_getElem_cons hk] at h0; injection h0) h5 (by omega)
                    refine ⟨_, _, ?_, h7, h8, h9⟩
                    rw [← List.drop_drop]
                    exact List.take_add
                  · cases h1
                · cases h1
            have := key fs.toList 0 0 s' rfl hs' (by rw [Nat.zero_add, hlen, hc]; exact Nat.le_refl _)
            rw [List.drop_zero, List.take_of_length_le (by rw [hlen, hc]; exact Nat.le_refl _)] at this
            exact this
          · cases h
        · cases h
      case array m e =>
        split at h
        · rename_i s' hs'
          split at h
          · rename_i hc
            injection h with h
            subst h
            obtain ⟨hc1, hc2⟩ := hc
            obtain ⟨xs, n, _, _, hlen, hxl, hf⟩ := DataW.trod_array hu hx
            refine ⟨by rw [hlen, hc2], ?_⟩
            have hr : ∀ q, (repS s' q).size = q * s'.size := by
              intro q
              induction q with
              | zero => simp [repS, Sch.size]
              | succ q ih => simp [repS, Sch.size, ih, Nat.add_mul]; omega
            have key : ∀ (q k : Nat), k + q = m → (repS s' q).ok (cellsW W) ((cs.drop (k * s'.size)).take (repS s' q).size) := by
              intro q
              induction q with
              | zero => intro k _; simp [repS, Sch.ok, Sch.size]
              | succ q ih =>
                intro k hk
                have h6 := hf k (by omega)
                rw [List.getElem?_eq_getElem (by omega), hc1] at h6
                obtain ⟨h7, h8⟩ := Sch.of_trod N e s' n _ _ hs' h6
                have h9 := ih (k + 1) (by omega)
                simp only [repS, Sch.size]
                refine ⟨_, _, ?_, h7, h8, h9⟩
                rw [Nat.add_mul, Nat.one_mul, ← List.drop_drop]
                exact List.take_add
            have := key m 0 (by omega)
            rw [Nat.zero_mul, List.drop_zero, List.take_of_length_le (by rw [hlen, hc2]; exact Nat.le_refl _)] at this
            exact this
          · cases h
        · cases h
end
theorem RowF.get5 {α : Type} {F : Heap} {v : Value} {l : List α} {f0 f1 f2 f3 f4 : α → Value} (h : RowF F 5 (fun x vs => vs = [f0 x, f1 x, f2 x, f3 x, f4 x]) v l) {k : Nat} (hk : k < l.length) :
    F.c ((addrOf v).add (k * 5)) (f0 (l[k]'hk)) ∧ F.c ((addrOf v).add (k * 5 + 1)) (f1 (l[k]'hk)) ∧ F.c ((addrOf v).add (k * 5 + 2)) (f2 (l[k]'hk)) ∧ F.c ((addrOf v).add (k * 5 + 3)) (f3 (l[k]'hk)) ∧ F.c ((addrOf v).add (k * 5 + 4)) (f4 (l[k]'hk)) := by
  obtain ⟨vs, rfl, _, h1⟩ := h.at_ k _ (List.getElem?_eq_getElem hk)
  simpa [CellsF, Nat.add_assoc] using h1
/-- A list of what each index has. -/
theorem list_of {α : Type} {n : Nat} {p : Nat → α → Prop} (h : ∀ i, i < n → ∃ x, p i x) : ∃ l : List α, l.length = n ∧ ∀ i x, l[i]? = some x → p i x := by
  induction n with
  | zero => exact ⟨[], rfl, fun i x hx => by simp at hx⟩
  | succ n ih =>
    obtain ⟨l, h1, h2⟩ := ih fun i hi => h i (Nat.lt_succ_of_lt hi)
    obtain ⟨x, hx⟩ := h n (Nat.lt_succ_self n)
    refine ⟨l ++ [x], by simp [h1], fun i y hy => ?_⟩
    rw [List.getElem?_append] at hy
    split at hy
    · exact h2 i y hy
    · rename_i hi
      have : i = n := by
        rcases Nat.lt_or_ge (i - l.length) 1 with h | h
        · omega
        · rw [List.getElem?_eq_none (by simpa using h)] at hy; cases hy
      subst this
      rw [h1, Nat.sub_self] at hy
      simp at hy
      subst hy
      exact hx
/-! Several steps under one name. -/
structure SxRes (p : Prop) : Prop where
  go : p
theorem sxEA {G G' : Prop} (r : G') (h : SxRes G' → G := by
  intro r
  (first|((first|((with_reducible refine gV ?_);(first|((with_reducible first|refine NV.quo ?s ?_|refine NV.rem ?s ?_|refine NV.i64 ?s ?_|refine NV.u32 ?s ?_|refine NV.u8 ?s ?_|refine NV.u64 ?s ?_);case s=>omega)|(with_reducible first|refine NV.divk ?_|refine NV.modk ?_|refine NV.keep ?_)))|((with_reducible refine gI ?_);(first|with_reducible refine NIf.not_ ?_|((with_reducible refine NIf.decY ?s ?_);case s=>first|with_reducible rfl|assumption|omega)|((with_reducible refine NIf.decN ?s ?_);case s=>first|with_reducible rfl|assumption|omega)|((with_reducible refine NIf.yes ?s ?_);case s=>first|rfl|assumption)|((with_reducible refine NIf.no ?s ?_);case s=>first|rfl|assumption)))|((with_reducible refine gN ?_);(with_reducible first|refine NN.lit ?_|refine NN.cast ?_|refine NN.a1 ?_|refine NN.a2 ?_|refine NN.a3 ?_|refine NN.a4 ?_|refine NN.a5 ?_|refine NN.a6 ?_|refine NN.keep ?_))|((with_reducible refine gH ?_);((with_reducible refine NH.mk ?s ?_);case s=>(and_intros<;>first|with_reducible rfl|((with_reducible refine gOnes ?_);rfl)|((with_reducible refine gLen ?_);rfl)|omega|assumption|exact Nat.le_of_ble_eq_true rfl|(simp only [List.length_append, List.length_cons, List.length_nil]; omega)|rfl)))|(with_reducible refine NS.keep ?_)|(with_reducible refine NLd.of (by with_reducible assumption) ?_))<;>(conv=>whnf))|((refine NFlat_iff.2 ⟨⟨?s1,?s2⟩,?_⟩;(case s1=>decide +kernel);(case s2=>decide +kernel))<;>(conv=>whnf)))
  exact r.go) : G := h ⟨r⟩
theorem sxIA {G G' : Prop} (r : G') (h : SxRes G' → G := by
  intro r
  (first|((with_reducible refine gO ?_);(with_reducible first|refine z25 ?_|refine z26 ?_))|((with_reducible refine gP ?_);(with_reducible first|refine z27 ?_|refine z28 ?_))|((with_reducible refine gR ?_);(first|refine z31 rfl ?_|refine z32 rfl ?_))|((with_reducible refine gF ?_);(refine z33 rfl ?_)))
  exact r.go) : G := h ⟨r⟩
theorem sxSA {G G' : Prop} (r : G') (h : SxRes G' → G := by
  intro r
  (first|((with_reducible refine gO ?_);(with_reducible first|refine z0 ?_))|((with_reducible refine gP ?_);(with_reducible first|refine z24 ?_))|((with_reducible refine gX ?_);(with_reducible first|refine z3 ?_|refine z4 ?_|refine z5 ?_|refine z6 ?_|refine z7 ?_|refine z8 ?_|refine z14 ?_|refine z15 ?_))|(with_reducible first|refine z1 ?_|refine z2 ?_|refine z9 ?_|refine z10 ?_|refine z11 ?_|refine z12 ?_|refine z13 ?_|refine z16 ?_|refine z17 ?_|refine z18 ?_|refine z19 ?_|refine z20 ?_|refine z21 ?_|refine z22 ?_|refine z23 ?_)|((with_reducible refine gB ?_);(refine z30 (by decide) ?_)))
  exact r.go) : G := h ⟨r⟩
theorem sxCA {G G' : Prop} (r : G') (h : SxRes G' → G := by
  intro r
  (first|((with_reducible refine gX ?_);(with_reducible refine z29 ?_)))
  exact r.go) : G := h ⟨r⟩
theorem fitsGo {a b : List AV} (h : FitsSl a b := by repeat (first | exact FitsSl.nil | refine FitsSl.any ?_ | refine FitsSl.cons (Fit1.int (by first | rfl | omega)) ?_ | refine FitsSl.cons (Fit1.bool rfl) ?_ | refine FitsSl.cons (Fit1.str rfl) ?_ | refine FitsSl.cons (Fit1.same (by intro h; cases h) (by with_reducible rfl)) ?_ | refine FitsSl.cons Fit1.nil_sl ?_ | refine FitsSl.cons (Fit1.hs rfl) ?_ | refine FitsSl.cons (Fit1.hp rfl rfl) ?_ | refine FitsSl.cons (Fit1.sl rfl) ?_ | refine FitsSl.cons (Fit1.ptr rfl rfl) ?_ | refine FitsSl.cons Fit1.raw ?_)) : FitsSl a b := h
theorem cM {P : Program} {f : FuncId} {args : List AV} {m : List Blk} {K KL : AV → List Blk → Prop} (idx : List Nat) {args' : List AV} {mL : List Blk} (h : NCall P f args' mL KL) (hargs : denL args' = denL args)
    (hmL : idx.map (fun i => m[i]?) = mL.map some) (hK : ∀ r bs, KL r bs → Nat.ble idx.length bs.length = true ∧ ∃ r', r'.den = r.den ∧ repK m idx bs (K r')) (hn : idx.Nodup := by decide) : NCall P f args m K :=
  NCall.subw idx args' mL h hargs hn hmL fun r bs hr => ⟨Nat.le_of_ble_eq_true (hK r bs hr).1, (hK r bs hr).2⟩
theorem cE {P : Program} {f : FuncId} {args : List AV} {m : List Blk} {K : AV → List Blk → Prop} {v : AV} {bs : List Blk} (idx : List Nat) {args' : List AV} {mL : List Blk} (h : NCall P f args' mL fun r m => r = v ∧ m = bs) (hargs : denL args' = denL args)
    (hmL : idx.map (fun i => m[i]?) = mL.map some) (hK : repK m idx bs (K v)) (hn : idx.Nodup := by decide) (hl : Nat.ble idx.length bs.length = true := by exact rfl) : NCall P f args m K :=
  NCall.subE idx h hargs hn hmL hl hK
theorem cP {P : Program} {f : FuncId} {args : List AV} {m : List Blk} {K : AV → List Blk → Prop} {G' : Prop} {v : AV} (h : NCall P f args [] fun r _ => r = v) (r : G') (hK : SxRes G' → K v m := by intro r; (conv=>whnf); exact r.go) : NCall P f args m K := NCall.pureE h (hK ⟨r⟩)
theorem cS {P : Program} {f : FuncId} {args : List AV} {m : List Blk} {K : AV → List Blk → Prop} {G' : Prop} {v : AV} {bs : List Blk} (idx : List Nat) {args' : List AV} {mL : List Blk} (h : NCall P f args' mL fun r m => r = v ∧ m = bs) (r : G') (hK : SxRes G' → repK m idx bs (K v) := by intro r; (conv=>whnf); exact r.go) (hargs : denL args' = denL args := by exact rfl) (hmL : idx.map (fun i => m[i]?) = mL.map some := by exact rfl) (hn : idx.Nodup := by decide) (hl : Nat.ble idx.length bs.length = true := by exact rfl) : NCall P f args m K :=
  NCall.subE idx h hargs hn hmL hl (hK ⟨r⟩)
theorem cN {P : Program} {f : FuncId} {args : List AV} {m : List Blk} {K KL : AV → List Blk → Prop} (idx : List Nat) {args' : List AV} {mL : List Blk} (h : NCall P f args' mL KL) (hK : ∀ r bs, KL r bs → Nat.ble idx.length bs.length = true ∧ ∃ r', r'.den = r.den ∧ repK m idx bs (K r')) (hargs : denL args' = denL args := by exact rfl) (hmL : idx.map (fun i => m[i]?) = mL.map some := by exact rfl) (hn : idx.Nodup := by decide) : NCall P f args m K :=
  NCall.subw idx args' mL h hargs hn hmL fun r bs hr => ⟨Nat.le_of_ble_eq_true (hK r bs hr).1, (hK r bs hr).2⟩
theorem cR {p : Prop} {K : AV → Prop} {r : AV} {G' : Prop} (g : G') (h : SxRes G' → K r := by intro r; (conv=>whnf); exact r.go) (hp : p := by exact rfl) : p ∧ ∃ r', r'.den = r.den ∧ K r' := ⟨hp, r, rfl, h ⟨g⟩⟩
structure SxJs (js : List Nat) : Prop where
theorem sxZ {G G' : Prop} (r : G') (h : SxRes G' → G := by
  intro r
  repeat1' (first|(with_reducible first|(refine hK _ _ ?_;try clear hK K)|(refine hA ?_;try clear hA hB A B)|(refine hB ?_;try clear hA hB A B)|(refine hK _ ?_;try clear hK K))|(intro K hK;first|(with_reducible first|refine hK _ _ ?_|refine hK _ ?_)|refine sxEA ?_)|((first|((with_reducible refine gV ?_);(first|((with_reducible first|refine NV.quo ?s ?_|refine NV.rem ?s ?_|refine NV.i64 ?s ?_|refine NV.u32 ?s ?_|refine NV.u8 ?s ?_|refine NV.u64 ?s ?_);case s=>omega)|(with_reducible first|refine NV.divk ?_|refine NV.modk ?_|refine NV.keep ?_)))|((with_reducible refine gI ?_);(first|with_reducible refine NIf.not_ ?_|((with_reducible refine NIf.decY ?s ?_);case s=>first|with_reducible rfl|assumption|omega)|((with_reducible refine NIf.decN ?s ?_);case s=>first|with_reducible rfl|assumption|omega)|((with_reducible refine NIf.yes ?s ?_);case s=>first|rfl|assumption)|((with_reducible refine NIf.no ?s ?_);case s=>first|rfl|assumption)))|((with_reducible refine gN ?_);(with_reducible first|refine NN.lit ?_|refine NN.cast ?_|refine NN.a1 ?_|refine NN.a2 ?_|refine NN.a3 ?_|refine NN.a4 ?_|refine NN.a5 ?_|refine NN.a6 ?_|refine NN.keep ?_))|((with_reducible refine gH ?_);((with_reducible refine NH.mk ?s ?_);case s=>(and_intros<;>first|with_reducible rfl|((with_reducible refine gOnes ?_);rfl)|((with_reducible refine gLen ?_);rfl)|omega|assumption|exact Nat.le_of_ble_eq_true rfl|(simp only [List.length_append, List.length_cons, List.length_nil]; omega)|rfl)))|(with_reducible refine NS.keep ?_)|(with_reducible refine NLd.of (by with_reducible assumption) ?_))<;>(conv=>whnf))|((first|((with_reducible refine gO ?_);(with_reducible first|refine z25 ?_|refine z26 ?_))|((with_reducible refine gP ?_);(with_reducible first|refine z27 ?_|refine z28 ?_))|((with_reducible refine gR ?_);(first|refine z31 rfl ?_|refine z32 rfl ?_))|((with_reducible refine gF ?_);(refine z33 rfl ?_)));intro K hK;(conv=>whnf))|((with_reducible refine gO ?_);(with_reducible first|refine z0 ?_))|((with_reducible refine gP ?_);(with_reducible first|refine z24 ?_))|((with_reducible refine gX ?_);(with_reducible first|refine z3 ?_|refine z4 ?_|refine z5 ?_|refine z6 ?_|refine z7 ?_|refine z8 ?_|refine z14 ?_|refine z15 ?_))|(with_reducible first|refine z1 ?_|refine z2 ?_|refine z9 ?_|refine z10 ?_|refine z11 ?_|refine z12 ?_|refine z13 ?_|refine z16 ?_|refine z17 ?_|refine z18 ?_|refine z19 ?_|refine z20 ?_|refine z21 ?_|refine z22 ?_|refine z23 ?_)|((with_reducible refine gB ?_);(refine z30 (by decide) ?_))|((with_reducible refine gX ?_);(refine z34 (by kernel_rfl) (by kernel_rfl) ?_))|((first|((with_reducible refine gX ?_);(with_reducible refine z29 ?_)));intro A B hA hB;(conv=>whnf))|((refine NFlat_iff.2 ⟨⟨?s1,?s2⟩,?_⟩;(case s1=>decide +kernel);(case s2=>decide +kernel))<;>(conv=>whnf)))
  (first|exact r.go|(revert K hK;exact r.go)|(revert A B hA hB;exact r.go))) : G := h ⟨r⟩
theorem sxO {G G' : Prop} (r : G') (h : SxRes G' → G := by
  intro r
  repeat1' (first|(with_reducible first|(refine hK _ _ ?_;try clear hK K)|(refine hA ?_;try clear hA hB A B)|(refine hB ?_;try clear hA hB A B)|(refine hK _ ?_;try clear hK K))|(intro K hK;first|(with_reducible first|refine hK _ _ ?_|refine hK _ ?_)|refine sxEA ?_)|((first|((with_reducible refine gV ?_);(first|((with_reducible first|refine NV.quo ?s ?_|refine NV.rem ?s ?_|refine NV.i64 ?s ?_|refine NV.u32 ?s ?_|refine NV.u8 ?s ?_|refine NV.u64 ?s ?_);case s=>omega)|(with_reducible first|refine NV.divk ?_|refine NV.modk ?_|refine NV.keep ?_)))|((with_reducible refine gI ?_);(first|with_reducible refine NIf.not_ ?_|((with_reducible refine NIf.decY ?s ?_);case s=>first|with_reducible rfl|assumption|omega)|((with_reducible refine NIf.decN ?s ?_);case s=>first|with_reducible rfl|assumption|omega)|((with_reducible refine NIf.yes ?s ?_);case s=>first|rfl|assumption)|((with_reducible refine NIf.no ?s ?_);case s=>first|rfl|assumption)))|((with_reducible refine gN ?_);(with_reducible first|refine NN.lit ?_|refine NN.cast ?_|refine NN.a1 ?_|refine NN.a2 ?_|refine NN.a3 ?_|refine NN.a4 ?_|refine NN.a5 ?_|refine NN.a6 ?_|refine NN.keep ?_))|((with_reducible refine gH ?_);((with_reducible refine NH.mk ?s ?_);case s=>(and_intros<;>first|with_reducible rfl|((with_reducible refine gOnes ?_);rfl)|((with_reducible refine gLen ?_);rfl)|omega|assumption|exact Nat.le_of_ble_eq_true rfl|(simp only [List.length_append, List.length_cons, List.length_nil]; omega)|rfl)))|(with_reducible refine NS.keep ?_)|(with_reducible refine NLd.of (by with_reducible assumption) ?_))<;>(conv=>whnf))|((first|((with_reducible refine gO ?_);(with_reducible first|refine z25 ?_|refine z26 ?_))|((with_reducible refine gP ?_);(with_reducible first|refine z27 ?_|refine z28 ?_))|((with_reducible refine gR ?_);(first|refine z31 rfl ?_|refine z32 rfl ?_))|((with_reducible refine gF ?_);(refine z33 rfl ?_)));intro K hK;(conv=>whnf))|((with_reducible refine gO ?_);(with_reducible first|refine z0 ?_))|((with_reducible refine gP ?_);(with_reducible first|refine z24 ?_))|((with_reducible refine gX ?_);(with_reducible first|refine z3 ?_|refine z4 ?_|refine z5 ?_|refine z6 ?_|refine z7 ?_|refine z8 ?_|refine z14 ?_|refine z15 ?_))|(with_reducible first|refine z1 ?_|refine z2 ?_|refine z9 ?_|refine z10 ?_|refine z11 ?_|refine z12 ?_|refine z13 ?_|refine z16 ?_|refine z17 ?_|refine z18 ?_|refine z19 ?_|refine z20 ?_|refine z21 ?_|refine z22 ?_|refine z23 ?_)|((with_reducible refine gB ?_);(refine z30 (by decide) ?_))|((with_reducible refine gX ?_);(refine z35 (by kernel_rfl) _ rfl ?_))|((with_reducible refine gNO ?_);(first|(refine z36 rfl (by kernel_rfl) ?_;intro K hK;(conv=>whnf))|(refine z37 rfl (by kernel_rfl) ?_;intro K hK;(conv=>whnf))|(refine z38 rfl (by kernel_rfl) ?_)|(refine z39 rfl rfl (by kernel_rfl) (by intro h; cases h) ?_)))|((with_reducible refine gNE ?_);(first|(refine z40 ?_ z42;intro K hK;(conv=>whnf))|(refine z41 ?_ z42;intro K hK;(conv=>whnf))))|((first|((with_reducible refine gX ?_);(with_reducible refine z29 ?_)));intro A B hA hB;(conv=>whnf))|((refine NFlat_iff.2 ⟨⟨?s1,?s2⟩,?_⟩;(case s1=>decide +kernel);(case s2=>decide +kernel))<;>(conv=>whnf)))
  (first|exact r.go|(revert K hK;exact r.go)|(revert A B hA hB;exact r.go))) : G := h ⟨r⟩
theorem sxW {G A' B' : Prop} (ra : A') (rb : B') (h : SxRes A' → SxRes B' → G := by
  intro ra rb
  (first|intro A B hA hB|intro K hK|skip);(with_reducible first|refine NIf.dec ?x8 ?x9|refine NIf.both ?x8 ?x9);(case x8=>intro hc;(conv=>whnf);(try with_reducible first|refine hA ?_|refine hB ?_|refine hK _ _ ?_|refine hK _ ?_);first|(revert hc;exact ra.go)|(revert K hK;revert hc;exact ra.go)|(revert A B hA hB;revert hc;exact ra.go));(case x9=>intro hc;(conv=>whnf);(try with_reducible first|refine hA ?_|refine hB ?_|refine hK _ _ ?_|refine hK _ ?_);first|(revert hc;exact rb.go)|(revert K hK;revert hc;exact rb.go)|(revert A B hA hB;revert hc;exact rb.go))) : G := h ⟨ra⟩ ⟨rb⟩
theorem sxV {G A' B' : Prop} (ra : A') (rb : B') (h : SxRes A' → SxRes B' → G := by
  intro ra rb
  (with_reducible refine gNE ?_);(first|refine z40 ?_ ?_|refine z41 ?_ ?_);(intro K hK;(conv=>whnf);revert K hK;exact ra.go);exact rb.go) : G := h ⟨ra⟩ ⟨rb⟩
end Go.Sx


