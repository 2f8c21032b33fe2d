/-
  CheckAt, walked; Conditions as the row reads them.
-/
import Derived.Test.YtpkjnmddembkjaaGreatDoorJ5
import Derived.Test.YtpkjnmddembkjaaGreatDoorJ20
import Derived.Test.YtpkjnmddembkjaaGreatDoorJ21
import Derived.Test.YtpkjnmddembkjaaGreatDoorJ25
import Derived.Test.YtpkjnmddembkjaaGreatDoorJ31
import Derived.Test.YtpkjnmddembkjaaGreatDoorJ34
import Derived.Test.YtpkjnmddembkjaaGreatDoorJ6
import Derived.Test.YtpkjnmddembkjaaGreatDoorRows
import Derived.ChangeArms
namespace Go.Proofs.YtpkjnmddembkjaaGreatDoor
open Go.Sx
set_option maxRecDepth 20000
set_option linter.unusedSimpArgs false
set_option linter.unusedVariables false
set_option maxHeartbeats 4000000
set_option linter.unusedVariables false
theorem Po.cells_mono (sw : Int) (x : Po.T) (h : Po.fits x = true) : ∀ i, Po.cellsN (Po.spec sw x) i ≤ Po.cellsN x i
  | 0 => Nat.le_refl _
  | i + 1 => by
    have h1 := Po.cells_mono sw x h i
    have h2 := Po.spec_vlen sw i x h
    have h3 := Nat.mul_le_mul h1 (show (Po.values i (Po.spec sw x)).length + 1 ≤ (Po.values i x).length + 1 by omega)
    rw [Po.cellsN, Po.cellsN]
    omega
theorem cat_c (F : Heap) (hT : TabF F) (x : Po.T) (pu u : Value) (sw other : Int) (s : Po.S) (hs : Po.tot x ≤ 1000000000) (hx : Po.At F x pu u) :
    NCall Tryz.prog 5 [.agg (Po.cs x pu u), .int .i64 sw, .int .i64 other, .int .i64 s.port, .agg [.int .i64 s.p0, .int .i64 s.p1, .int .i64 s.p2, .int .i64 s.p3]] [hpB F] fun r _ => r = .bool true := by
  have hok := hx.l.ok
  have hpok := hx.p.ok
  have cw := fun G (h : F.le G) => awake30_c G (hT.mono h)
  have rR := refright27_c F x pu u (by omega) hx
  by_cases hr : Po.right x = true
  rotate_left
  · have hr : Po.right x = false := by simpa using hr
    rw [hr] at rR
    have cw := cw F F.le_refl
    clear hx hr hs
    obtain ⟨k, ⟨pk, pf, pv, pl⟩, f0, v0, l⟩ := x
    obtain ⟨a0, q0, q1, q2, q3⟩ := s
    simp only [Po.cs, Po.T.k, Po.T.p, Po.T.f, Po.T.v, Po.T.l, Pd.T.k, Pd.T.f, Pd.T.v, Pd.T.l] at *
    refine ncall_of Tryz.func5 rfl (by decide) ?_
    (repeat' (first|(with_reducible first|(refine hK _ _ ?_;clear hK K)|(refine hA ?_;clear hA hB A B)|(refine hK _ ?_;clear hK K))|((with_reducible refine gO ?_);(first|((with_reducible refine z25 ?_);intro K hK;(conv=>whnf))|(with_reducible refine z0 ?_)))|((first|((with_reducible refine gI ?_);(first|with_reducible refine NIf.not_ ?_|((with_reducible refine NIf.no ?s ?_);case s=>rfl)))|((with_reducible refine gH ?_);((with_reducible refine NH.mk ?s ?_);case s=>(and_intros<;>with_reducible rfl)))|((with_reducible refine gC ?_);(first|((with_reducible refine NCall.isF 13 ?_);refine NCall.subE [0] (rR) rfl (by decide) rfl rfl ?_)|((with_reducible refine NCall.isF 7 ?_);refine NCall.subE [0] (cw) rfl (by decide) rfl rfl ?_))))<;>(conv=>whnf))|((with_reducible refine gX ?_);(first|(with_reducible first|refine z3 ?_|refine z4 ?_|refine z8 ?_)|((with_reducible refine z29 ?_);intro A B hA hB;(conv=>whnf))))|(with_reducible first|refine z1 ?_|refine z2 ?_|refine z12 ?_)|((with_reducible refine gR ?_);((refine z31 rfl ?_);intro K hK;(conv=>whnf)))|((with_reducible refine gF ?_);((refine z33 rfl ?_);intro K hK;(conv=>whnf)))|((intro _;skip)<;>(conv=>whnf))))
    all_goals rfl
  rw [hr] at rR
  have hf := Po.right_fits' hr
  have cm := mine27_c _ F x pu u (Nat.le_refl _) (by omega) hx
  have ca := fun G pu' u' (h : Po.At G x pu' u') => at27_c _ G x pu' u' sw (Nat.le_refl _) (by omega) hf h
  have h64 := Po.runs_64 sw x hr s
  have cR1 := fun G pu' u' (h : Po.At G x pu' u') => Run27_c G x pu' u' sw s (by omega) hf (by omega) h
  have cc := fun G pu' u' (h : Po.At G x pu' u') => cells27_c G x pu' u' (by omega) h
  have htX := Po.spec_tot sw x hf
  have hfX := Po.spec_fits sw x hf
  have hrX := Po.spec_right sw x hr
  have hruns := Po.spec_runs sw other _ x (Nat.le_refl _) hf s
  have hv5 := Po.spec_v5 sw x hf
  have hcl : Po.cells (Po.spec sw x) ≤ Po.cells x := Po.cells_mono sw x hf 5
  generalize Po.spec sw x = X at *
  have cR2 := fun G pu' u' (h : Po.At G X pu' u') => Run27_c G X pu' u' other s (by omega) hfX (by rw [hruns]; omega) h
  rw [hruns] at cR2
  have cX := fun G pu' u' (h : Po.At G X pu' u') => right27_c G X pu' u' (by omega) h
  rw [hrX] at cX
  have cV := fun G pu' u' (h : Po.At G X pu' u') => (Values27_c G X pu' u' 5 (by omega) (by omega) h).mono (K' := fun r m => ∃ F' v, G.le F' ∧ SlOk v 0 ∧ r = .hs v 0 ∧ m = [hpB F']) fun r m ⟨F', v, h1, h2, h3, h4⟩ => by
    rw [hv5] at h2 h3
    exact ⟨F', v, h1, h2.ok, h3, h4⟩
  have cC := fun G pu' u' (h : Po.At G X pu' u') => cells27_c G X pu' u' (by omega) h
  generalize Po.runs sw x s = R at *
  have cS := fun G v w (h : Po.SRow G v R) (h2 : Po.SRow G w R) => sent27_c G v w R R h h2 (by omega) (by omega)
  simp only [decide_true] at cS
  have hmS : ∀ G G' v, G.le G' → Po.SRow G v R → Po.SRow G' v R := fun G G' v h h2 => RowF.mono h (fun _ _ h => h) h2
  have hmx : ∀ G G' pu' u', G.le G' → Po.At G x pu' u' → Po.At G' x pu' u' := fun G G' _ _ h h2 => Po.At.mono h h2
  have hmX : ∀ G G' pu' u', G.le G' → Po.At G X pu' u' → Po.At G' X pu' u' := fun G G' _ _ h h2 => Po.At.mono h h2
  generalize Po.cells x = nc at *
  generalize Po.cells X = nX at *
  simp only [Po.Lays] at cm ca
  have cm := cm.mono (K' := fun r m => ∃ F' pw w, F.le F' ∧ Po.At F' x pw w ∧ SlOk pw x.p.l.length ∧ SlOk w x.l.length ∧ r = .agg (Po.cs x pw w) ∧ m = [hpB F']) fun r m ⟨F', pw, w, h1, h2, h3, h4⟩ => ⟨F', pw, w, h1, h2, h2.p.ok, h2.l.ok, h3, h4⟩
  have ca := fun G pu' u' h => (ca G pu' u' h).mono (K' := fun r m => ∃ F' pw w, G.le F' ∧ Po.At F' X pw w ∧ SlOk pw X.p.l.length ∧ SlOk w X.l.length ∧ r = .agg (Po.cs X pw w) ∧ m = [hpB F']) fun r m ⟨F', pw, w, h1, h2, h3, h4⟩ => ⟨F', pw, w, h1, h2, h2.p.ok, h2.l.ok, h3, h4⟩
  have cR1 := fun G pu' u' h => (cR1 G pu' u' h).mono (K' := fun r m => ∃ F' v, G.le F' ∧ Po.SRow F' v R ∧ SlOk v R.length ∧ r = .hs v R.length ∧ m = [hpB F']) fun r m ⟨F', v, h1, h2, h3, h4⟩ => ⟨F', v, h1, h2, h2.ok, h3, h4⟩
  have cR2 := fun G pu' u' h => (cR2 G pu' u' h).mono (K' := fun r m => ∃ F' v, G.le F' ∧ Po.SRow F' v R ∧ SlOk v R.length ∧ r = .hs v R.length ∧ m = [hpB F']) fun r m ⟨F', v, h1, h2, h3, h4⟩ => ⟨F', v, h1, h2, h2.ok, h3, h4⟩
  clear hx hr hs htX hfX hrX hruns hv5 hf h64
  obtain ⟨k, ⟨pk, pf, pv, pl⟩, f0, v0, l⟩ := x
  obtain ⟨Xk, ⟨Xpk, Xpf, Xpv, Xpl⟩, Xf, Xv, Xl⟩ := X
  obtain ⟨a0, q0, q1, q2, q3⟩ := s
  simp only [Po.cs, Po.T.k, Po.T.p, Po.T.f, Po.T.v, Po.T.l, Pd.T.k, Pd.T.f, Pd.T.v, Pd.T.l] at *
  refine ncall_of Tryz.func5 rfl (by decide) ?_
  (repeat' (first|(with_reducible first|(refine hK _ _ ?_;clear hK K)|(refine hB ?_;clear hA hB A B)|(refine hK _ ?_;clear hK K))|((with_reducible refine gO ?_);(first|((with_reducible refine z25 ?_);intro K hK;(conv=>whnf))|(with_reducible refine z0 ?_)))|((first|((with_reducible refine gI ?_);(first|(((with_reducible refine NIf.yes ?s ?_);case s=>(simp ;done)))|(((with_reducible refine NIf.no ?s ?_);case s=>(simp ;done)))|((with_reducible refine NIf.decY ?s ?_);case s=>omega)))|((with_reducible refine gH ?_);((with_reducible refine NH.mk ?s ?_);case s=>(and_intros<;>first|with_reducible rfl|((with_reducible refine gOnes ?_);rfl)|((with_reducible refine gLen ?_);rfl)|((with_reducible refine gKept ?_);exact rfl)|omega|rfl)))|((with_reducible refine gC ?_);(first|((with_reducible refine NCall.isF 13 ?_);refine NCall.subE [0] (rR) rfl (by decide) rfl rfl ?_)|((with_reducible refine NCall.isF 8 ?_);refine NCall.subw [0] _ _ (cm) rfl (by decide) rfl ?_; rintro _ _ ⟨F1, pu1, u1, hle1, hu1, hok1, hok2, rfl, rfl⟩; refine ⟨Nat.le_of_ble_eq_true rfl, _, rfl, ?_⟩)|((with_reducible refine NCall.isF 18 ?_);refine NCall.subw [0] _ _ (ca F1 pu1 u1 hu1) rfl (by decide) rfl ?_; rintro _ _ ⟨F2, pu2, u2, hle2, hu2, hok3, hok4, rfl, rfl⟩; refine ⟨Nat.le_of_ble_eq_true rfl, _, rfl, ?_⟩)|((with_reducible refine NCall.isF 30 ?_);refine NCall.subw [0] _ _ (cR2 F2 pu2 u2 hu2) rfl (by decide) rfl ?_; rintro _ _ ⟨F3, v3, hle3, hs3, hok5, rfl, rfl⟩; refine ⟨Nat.le_of_ble_eq_true rfl, _, rfl, ?_⟩)|((with_reducible refine NCall.isF 30 ?_);refine NCall.subw [0] _ _ (cR1 F3 pu1 u1 (hmx _ _ _ _ (hle2.trans hle3) hu1)) rfl (by decide) rfl ?_; rintro _ _ ⟨F4, v4, hle4, hs4, hok6, rfl, rfl⟩; refine ⟨Nat.le_of_ble_eq_true rfl, _, rfl, ?_⟩)|((with_reducible refine NCall.isF 29 ?_);refine NCall.subE [0] (cS F4 v3 v4 (hmS _ _ _ hle4 hs3) hs4) rfl (by decide) rfl rfl ?_)|((with_reducible refine NCall.isF 31 ?_);refine NCall.subE [0] (cX F4 pu2 u2 (hmX _ _ _ _ (hle3.trans hle4) hu2)) rfl (by decide) rfl rfl ?_)|((with_reducible refine NCall.isF 32 ?_);refine NCall.subw [0] _ _ (cV F4 pu2 u2 (hmX _ _ _ _ (hle3.trans hle4) hu2)) rfl (by decide) rfl ?_; rintro _ _ ⟨F5, v5, hle5, hok7, rfl, rfl⟩; refine ⟨Nat.le_of_ble_eq_true rfl, _, rfl, ?_⟩)|((with_reducible refine NCall.isF 14 ?_);refine NCall.subE [0] (cC F5 pu2 u2 (hmX _ _ _ _ ((hle3.trans hle4).trans hle5) hu2)) rfl (by decide) rfl rfl ?_)|((with_reducible refine NCall.isF 14 ?_);refine NCall.subE [0] (cc F5 pu1 u1 (hmx _ _ _ _ (((hle2.trans hle3).trans hle4).trans hle5) hu1)) rfl (by decide) rfl rfl ?_)|((with_reducible refine NCall.isF 7 ?_);refine NCall.subE [0] (cw F5 ((((hle1.trans hle2).trans hle3).trans hle4).trans hle5)) rfl (by decide) rfl rfl ?_))))<;>(conv=>whnf))|((with_reducible refine gNRK ?_);((with_reducible refine st_ordSout ?_)))|((with_reducible refine gNOK ?_);(first|(refine st_ordK1 rfl (by kernel_rfl) rfl ?_; intro K hK; (conv=>whnf))|(refine st_ordK1g rfl (by kernel_rfl) rfl ?_; intro K hK; (conv=>whnf))|(refine st_ordK0 rfl (by kernel_rfl) ?_)|(refine st_ordKA rfl rfl (by kernel_rfl) (by intro h; cases h) ?_)))|((with_reducible refine gNEK ?_);(first|(refine st_eachK ?_ ?_; (intro K hK; (conv=>whnf)))|(refine st_eachKg rfl ?_ ?_; (intro K hK; (conv=>whnf)))|exact st_eachK0))|((with_reducible refine gX ?_);(first|(refine st_orderS [0] rfl rfl (by kernel_rfl) _ rfl ?_)|(with_reducible first|refine z3 ?_|refine z4 ?_|refine z6 ?_|refine z8 ?_)|((with_reducible refine z29 ?_);intro A B hA hB;(conv=>whnf))))|(with_reducible first|refine z1 ?_|refine z2 ?_)|((with_reducible refine gR ?_);((refine z31 rfl ?_);intro K hK;(conv=>whnf)))|((with_reducible refine gF ?_);((refine z33 rfl ?_);intro K hK;(conv=>whnf)))|((intro _;skip)<;>(conv=>whnf))))
  all_goals first | rfl | (exfalso; omega)
end Go.Proofs.YtpkjnmddembkjaaGreatDoor
namespace Go.Proofs.YtpkjnmddembkjaaGreatDoor
open Go.Sx Go.RowKit Go.ChangeShapes Go.WideShapes
set_option maxRecDepth 20000
set_option linter.unusedVariables false
theorem fit64 {x : Int} (h : (Lit.int .i64 x).wf = true) : -9223372036854775808 ≤ x ∧ x ≤ 9223372036854775807 := by
  have e1 : IntKind.i64.min = -9223372036854775808 := by decide
  have e2 : IntKind.i64.max = 9223372036854775807 := by decide
  simp only [Lit.wf, e1, e2, Bool.and_eq_true, decide_eq_true_eq] at h
  exact h
theorem bulk_le {H : Type} : ∀ (l : List Pd.T) (es : List (DataW H × List MemPlace)), l.length = es.length → (∀ (i : Nat) (p : Pd.T) (e : DataW H × List MemPlace), l[i]? = some p → es[i]? = some e → Pd.size p ≤ Rows.uptoBulk e.1) → Pd.sizeL l ≤ Rows.uptoBulkAll (es.map (·.1))
  | [], _, _, _ => by rw [Pd.sizeL]; exact Nat.zero_le _
  | p :: l, [], h, _ => by simp at h
  | p :: l, e :: es, h, hi => by
    have h1 := hi 0 p e rfl rfl
    have h2 := bulk_le l es (by simpa using h) fun i q f hq hf => hi (i + 1) q f (by simpa using hq) (by simpa using hf)
    rw [Pd.sizeL, List.map_cons, Rows.uptoBulkAll]
    omega
section
variable {H : Type} {enc : TypeId × Value → H} {W : World} {spare : Nat → Bool} {held : Bool}
theorem open26 (t tS : TypeId) (fs : Array Field) (hT : Tryz.prog.underlying t = some (.struct fs)) (hS : Tryz.prog.underlying tS = some (.slice t)) (ti : TypeId) (hI : Tryz.prog.underlying ti = some (.int .i64))
    (hfs : fs.toList.map (fun f => (f.type, f.offset)) = [(ti, 0), (ti, 1), (ti, 2), (tS, 3)]) (hc : Tryz.prog.cellsOf t = 4) (hci : Tryz.prog.cellsOf ti = 1) (hcs : Tryz.prog.cellsOf tS = 1) :
    ∀ (N fuel : Nat) (cs : List Value) (x : DataW H × List MemPlace), fuel ≤ N → DataW.trod enc Tryz.prog W 0 spare held fuel t cs = some x → ∃ p : Pd.T, Pd.R (cellsW W) p cs ∧ Pd.in64 p ∧ Pd.size p ≤ Rows.uptoBulk x.1
  | 0, fuel, cs, x, hN, hx => by
    obtain ⟨xs, n, h1, _⟩ := DataW.trod_struct hT hx
    omega
  | N + 1, fuel, cs, x, hN, hx => by
    obtain ⟨xs, n, h1, h2, hlen, hxl, hf⟩ := DataW.trod_struct hT hx
    have hfs4 : fs.size = 4 := by have := congrArg List.length hfs; simpa using this
    have hat : ∀ i (hi : i < 4), ∃ f, fs[i]? = some f ∧ (f.type, f.offset) = [(ti, 0), (ti, 1), (ti, 2), (tS, 3)][i] := fun i hi => by
      have hi' : i < fs.size := by omega
      refine ⟨fs[i], Array.getElem?_eq_getElem hi', ?_⟩
      have := congrArg (fun l => l[i]?) hfs
      simp only [List.getElem?_map, Array.getElem?_toList, Array.getElem?_eq_getElem hi', Option.map_some, List.getElem?_eq_getElem (show i < [(ti, 0), (ti, 1), (ti, 2), (tS, 3)].length by simpa using hi), Option.some.injEq] at this
      exact this
    match cs, (hlen.trans hc) with
    | [c0, c1, c2, c3], _ =>
      match xs, (hxl.trans hfs4) with
      | [x0, x1, x2, x3], _ =>
        obtain ⟨f0, g0, e0⟩ := hat 0 (by decide)
        obtain ⟨f1, g1, e1⟩ := hat 1 (by decide)
        obtain ⟨f2, g2, e2⟩ := hat 2 (by decide)
        obtain ⟨f3, g3, e3⟩ := hat 3 (by decide)
        simp only [List.getElem_cons_zero, List.getElem_cons_succ, Prod.mk.injEq] at e0 e1 e2 e3
        have t0 := hf 0 f0 g0
        have t1 := hf 1 f1 g1
        have t2 := hf 2 f2 g2
        have t3 := hf 3 f3 g3
        rw [e0.1, e0.2, hci] at t0
        rw [e1.1, e1.2, hci] at t1
        rw [e2.1, e2.2, hci] at t2
        rw [e3.1, e3.2, hcs] at t3
        simp only [List.drop_zero, List.take_succ_cons, List.take_zero, List.drop_succ_cons, List.getElem?_cons_zero, List.getElem?_cons_succ] at t0 t1 t2 t3
        obtain ⟨k, ek, _, wk⟩ := DataW.trod_int hI t0
        obtain ⟨a, ea, _, wa⟩ := DataW.trod_int hI t1
        obtain ⟨v, ev, _, wv⟩ := DataW.trod_int hI t2
        cases ek
        cases ea
        cases ev
        rcases DataW.trod_slice hS t3 with ⟨es, _⟩ | ⟨b, len, cap, elems, rest, n', hn', es, ex3, _, hl, hm, hel, hat', _⟩
        · cases es
          refine ⟨.mk k a v [], Pd.R.of (p := .mk k a v []) (A := none) (cap := 0) RowF.nil, by simp only [Pd.in64, Pd.in64L, and_true]; exact ⟨fit64 wk, fit64 wa, fit64 wv⟩, ?_⟩
          rw [Pd.size, Pd.sizeL, h2]
          simp only [Rows.uptoBulk]
          omega
        · cases es
          have hel2 : ∀ i, i < len → ∃ p : Pd.T, (∃ cs', cs'.length = 4 ∧ CellsF (cellsW W) b (i * 4) cs' ∧ Pd.R (cellsW W) p cs') ∧ Pd.in64 p ∧ ∀ e, elems[i]? = some e → Pd.size p ≤ Rows.uptoBulk e.1 := fun i hi => by
            have h1 := hat' i hi
            rw [List.getElem?_eq_getElem (by omega), Option.bind_eq_some_iff] at h1
            obtain ⟨cs', h3, h4⟩ := h1
            obtain ⟨p, h5, h6, h7⟩ := open26 t tS fs hT hS ti hI hfs hc hci hcs N n' cs' _ (by omega) h4
            obtain ⟨_, h8, h9⟩ := World.cells?_some h3
            rw [hc] at h8 h9
            refine ⟨p, ⟨cs', by omega, cellsF_of cs' _ fun j u hj => ?_, h5⟩, h6, fun e he => ?_⟩
            · have := h9 j (by have := (List.getElem?_eq_some_iff.1 hj).1; omega)
              rw [add_of_add] at this
              exact this.trans hj
            · rw [List.getElem?_eq_getElem (by omega)] at he
              cases he
              exact h7
          obtain ⟨l, hll, hl2⟩ := list_of hel2
          subst hll
          have hrow : Pd.Row (cellsW W) (.slice (some b) l.length cap) l := ⟨⟨some b, cap, rfl, hl, by simp⟩, fun i p hp => by
            obtain ⟨⟨cs', h3, h4, h5⟩, _⟩ := hl2 i p hp
            exact ⟨cs', h5, h3, h4⟩⟩
          refine ⟨.mk k a v l, Pd.R.of (p := .mk k a v l) (A := some b) (cap := cap) hrow, ?_, ?_⟩
          · simp only [Pd.in64, Pd.in64L_iff]
            refine ⟨⟨fit64 wk, fit64 wa, fit64 wv⟩, fun p hp => ?_⟩
            obtain ⟨i, hi⟩ := List.getElem?_of_mem hp
            exact (hl2 i p hi).2.1
          · have hb := bulk_le l elems hel.symm fun i p e hp he => (hl2 i p hp).2.2 e he
            have e3' : x3.1 = .slice (elems.map (·.1)) (rest.map (·.1)) := by rw [ex3]
            rw [Pd.size, h2]
            simp only [List.map_cons, List.map_nil, Rows.uptoBulk, Rows.uptoBulkAll, e3']
            omega
end
end Go.Proofs.YtpkjnmddembkjaaGreatDoor
