/-
  Policies: what they are at a switch, by the program. (Printed by gen_po9.py.); What a condition is at a switch, by the document. (Printed by gen_ck5.py.).
-/
import Derived.Test.YtpkjnmddembkjaaGreatDoorJ3
import Derived.Test.YtpkjnmddembkjaaGreatDoorJ11
import Derived.Test.YtpkjnmddembkjaaGreatDoorJ13
namespace Go.Proofs.YtpkjnmddembkjaaGreatDoor
open Go.Sx
set_option maxRecDepth 20000
set_option linter.unusedSimpArgs false
set_option linter.unusedVariables false
set_option maxHeartbeats 4000000
set_option linter.unusedVariables false
namespace Po
theorem psC_cons (p : L) (ps : List L) : psC (p :: ps) = cs p.x p.pu p.u ++ psC ps := rfl
theorem psC_split (l : List L) (i : Nat) : (psC l).take (i * 8) = psC (l.take i) ∧ (psC l).drop (i * 8) = psC (l.drop i) := by
  induction l generalizing i with
  | nil => simp [psC]
  | cons x l ih =>
    cases i with
    | zero => simp [psC]
    | succ i =>
      rw [psC_cons]
      unfold cs
      rw [show (i + 1) * 8 = i * 8 + 1 + 1 + 1 + 1 + 1 + 1 + 1 + 1 by omega]
      simp only [List.cons_append, List.nil_append, List.take_succ_cons, List.drop_succ_cons, (ih i).1, (ih i).2]
      exact ⟨rfl, trivial⟩
theorem psC_get {l : List L} {i : Nat} {p : L} (h : l[i]? = some p) : i * 8 + 8 ≤ (psC l).length ∧ ((psC l).drop (i * 8)).take 8 = cs p.x p.pu p.u := by
  obtain ⟨hi, rfl⟩ := List.getElem?_eq_some_iff.1 h
  refine ⟨by rw [psC_len]; omega, ?_⟩
  rw [(psC_split l i).2, List.drop_eq_getElem_cons hi, psC_cons]
  rfl
theorem cellsK_ps {l : List L} {i : Nat} {p : L} {K : List AV → Prop} (h : l[i]? = some p) (hK : K (cs p.x p.pu p.u)) : cellsK (psC l) (i * 8) 8 K :=
  cellsK.of (psC_get h).1 (psC_get h).2 hK
/-- What is made stands for a policy, be it laid by another or not. -/
def Out (F : Heap) (t : TypeId) (X : T) (v : AV) (m : List Blk) : Prop :=
  Got F t X v m ∨ ∃ G pu u, F.le G ∧ At G X pu u ∧ v.den = (AV.agg (cs X pu u)).den ∧ MemFits m [hpB G]
theorem out_know {f : FuncId} {args : List AV} {F : Heap} {t : TypeId} {m : List Blk} {X : T} (h : NCall Tryz.prog f args m fun v m' => Out F t X v m') :
    NCall Tryz.prog f args m fun v m' => Lays F X v m' := by
  refine Go.Sx.NCall.know h fun r m' hq ⟨w, hw⟩ => ?_
  rcases hq with ⟨G, pu, u, ps, hle, hmap, hall, hpr, hr, hm⟩ | ⟨G, pu, u, hle, hat, hr, hm⟩
  · have hok := ((hm w hw).1.row (List.mem_cons_of_mem _ (List.mem_cons_self ..))).1
    have hrow := rowF_new (F := G) (sz := 8) (enc := psV) hok (psC_den ps) (fun x _ => rfl)
    refine ⟨_, _, hr.symm, hm.trans (MemFits.freeze (m := [])), _, pu, u, hle.trans addF.old, ⟨Pd.Row.mono addF.old hpr, ?_⟩, rfl, rfl⟩
    rw [← hmap]
    exact row_of hrow fun p hp => At.mono addF.old (hall p hp)
  · exact ⟨_, _, hr.symm, hm, G, pu, u, hle, hat, rfl, rfl⟩
theorem nilRow (F : Heap) : Row F (.slice .none 0 0) [] := ⟨SlOk.nil, fun k x hx => by simp at hx⟩
end Po
theorem Pd.nilRow (F : Heap) : Pd.Row F (.slice .none 0 0) [] := ⟨SlOk.nil, fun k x hx => by simp at hx⟩
theorem at27_out (F : Heap) (k f v : Int) (p : Pd.T) (l : List Po.T) (pu u : Value) (sw : Int) (hkk : ¬ (k = 1 ∨ k = 5)) (hs : Pd.size p ≤ 1000000000000) (hl : l.length ≤ 8) (h5 : k = 5 → l.length = 2) (hpf : (k = 1 ∨ k = 5) → Pd.fits p = true) (hu : Po.Row F u l) (hpu : Pd.Row F pu p.l)
    (ih : ∀ G, ∀ y ∈ l, ∀ pw w, Po.At G y pw w → NCall Tryz.prog 18 [.agg (Po.cs y pw w), .int .i64 sw] [hpB G] fun r m => Po.Lays G (Po.spec sw y) r m) :
    NCall Tryz.prog 18 [.agg (Po.cs (.mk k p f v l) pu u), .int .i64 sw] [hpB F] fun r m => Po.Out F 39 (Po.spec sw (.mk k p f v l)) r m := by
  have hok := hu.ok
  have hpok := hpu.ok
  rw [Po.spec_mk, if_neg (fun h => hkk (.inr h.1)), if_neg hkk]
  rw [po_cs]
  have hk1 : ¬ k = 1 := fun h => hkk (.inl h)
  have hk5 : ¬ k = 5 := fun h => hkk (.inr h)
  clear hpf h5 hkk
  obtain ⟨pk, pf, pv, pl⟩ := p
  simp only [pd_cs, Pd.T.k, Pd.T.f, Pd.T.v, Pd.T.l] at *
  refine ncall_of Tryz.func18 rfl (by decide) ?_
  (repeat' (first|(with_reducible first|(refine hK _ _ ?_;clear hK K)|(refine hB ?_;clear hA hB A B)|(refine hK _ ?_;clear hK K))|((with_reducible refine gO ?_);(first|((with_reducible first|refine z25 ?_|refine z26 ?_);intro K hK;(conv=>whnf))|(with_reducible refine z0 ?_)))|((first|((with_reducible refine gI ?_);(((with_reducible refine NIf.decN ?s ?_);case s=>assumption)))|((with_reducible refine gN ?_);(with_reducible refine NN.a5 ?_))|((with_reducible refine gH ?_);((with_reducible refine NH.mk ?s ?_);case s=>(and_intros<;>first|with_reducible rfl|((with_reducible refine gOnes ?_);rfl)|((with_reducible refine gLen ?_);rfl)|omega))))<;>(conv=>whnf))|((with_reducible refine gX ?_);(first|(with_reducible first|refine z3 ?_|refine z4 ?_|refine z5 ?_|refine z6 ?_)|((with_reducible refine z29 ?_);intro A B hA hB;(conv=>whnf))))|(with_reducible first|refine z1 ?_|refine z2 ?_)|((with_reducible refine gF ?_);((refine z33 rfl ?_);intro K hK;(conv=>whnf)))|((intro _;skip)<;>(conv=>whnf))))
  all_goals
    refine st_auto (α := Heap × Value × List Po.L) (fun (G, w, ps) => F.le G ∧ ps.map (·.x) = (l.take ps.length).map (Po.spec sw) ∧ ps.length ≤ l.length ∧ ∀ p ∈ ps, Po.At G p.x p.pu p.u) (fun (G, w, ps) => [.keep, .keep, .keep, .keep, .keep, .keep, .keep, .drop, .keep, .keep, .keep, .keep, .keep, .keep, .keep, .keep, .keep, .keep, .keep, .keep, .keep, .keep, .keep, .keep, .keep, .keep, .keep, .keep, .keep, .keep, .keep, .set (.int .i64 ps.length), .drop, .drop, .drop, .drop, .drop, .drop, .drop, .drop, .drop, .drop, .drop, .drop, .keep, .keep, .keep, .keep, .keep, .keep, .keep, .keep, .keep, .keep, .keep, .keep, .keep, .keep, .keep, .keep, .keep, .keep])
      (fun (G, w, ps) => [.set (hpB G), .keep, .keep, .cells [.int .i64 k, .int .i64 0, .int .i64 0, .int .i64 0, .raw (.slice .none 0 0), .int .i64 f, .int .i64 v, .sl 4 w ps.length], .set ⟨addrOf w, Po.psC ps, .row w 39 8 ps.length⟩]) (fun (G, w, ps) => l.length - ps.length) (F, .slice .none 0 0, []) ⟨F.le_refl, rfl, Nat.zero_le _, fun p hp => by simp at hp⟩ ?_ ((MemFits.nilRow _ 39 8).trans (MemFits.congr rfl)) ?_
    · repeat (first | exact FitsSl.nil | refine FitsSl.any ?_ | refine FitsSl.cons (Fit1.int (by first | rfl | omega)) ?_ | refine FitsSl.cons (Fit1.bool rfl) ?_ | refine FitsSl.cons (Fit1.str rfl) ?_ | refine FitsSl.cons (Fit1.same (by intro h; cases h) (by with_reducible rfl)) ?_ | refine FitsSl.cons Fit1.nil_sl ?_ | refine FitsSl.cons (Fit1.hs rfl) ?_ | refine FitsSl.cons (Fit1.hp rfl rfl) ?_ | refine FitsSl.cons (Fit1.sl rfl) ?_ | refine FitsSl.cons (Fit1.ptr rfl rfl) ?_ | refine FitsSl.cons Fit1.raw ?_)
    (intro ⟨G, w, ps⟩ ⟨hle, hmap, hlen, hall⟩; intro K hK; (conv=>whnf); refine hK _ _ ?_; clear hK K)
    dsimp only
    generalize hk : ps.length = i at *
    by_cases hlt : i < l.length
    · have hx : l[i]? = some l[i] := List.getElem?_eq_getElem hlt
      obtain ⟨pA, pcap, A, cap, hA, c0, c1, c2, c3, c4, c5, c6, c7⟩ := (Po.Row.mono hle hu).get hx
      have hAo := hA.l.ok
      have hAp := hA.p.ok
      have hmem := List.mem_of_getElem? hx
      have c := ih G _ hmem _ _ hA
      have hnx : (l.take (i + 1)).map (Po.spec sw) = (l.take i).map (Po.spec sw) ++ [Po.spec sw l[i]] := by rw [List.take_add_one, hx, List.map_append]; rfl
      clear ih
      generalize Po.spec sw l[i] = z at *
      generalize l[i] = y at *
      have hpl := Po.psC_len ps
      have hpn := Po.psC_next ps
      generalize hpc : Po.psC ps = pc at *
      obtain ⟨yk, ⟨ypk, ypf, ypv, ypl⟩, yf, yv, yl⟩ := y
      obtain ⟨zk, ⟨zpk, zpf, zpv, zpl⟩, zf, zv, zl⟩ := z
      simp only [Po.Lays, Po.cs, Po.T.k, Po.T.p, Po.T.f, Po.T.v, Po.T.l, Pd.T.k, Pd.T.f, Pd.T.v, Pd.T.l] at c c0 c1 c2 c3 c4 c5 c6 c7 hAo hAp
      (repeat' (first|(with_reducible first|(refine hK _ _ ?_;clear hK K)|(refine hA ?_;clear hA hB A B)|(refine hK _ ?_;clear hK K))|((with_reducible refine gO ?_);(first|((with_reducible refine z25 ?_);intro K hK;(conv=>whnf))|(with_reducible refine z0 ?_)))|((first|((with_reducible refine gV ?_);(((with_reducible refine NV.i64 ?s ?_);case s=>omega)))|((with_reducible refine gI ?_);(((with_reducible refine NIf.decY ?s ?_);case s=>omega)))|((with_reducible refine gN ?_);(with_reducible first|refine NN.cast ?_|refine NN.a5 ?_|refine NN.keep ?_))|((with_reducible refine gH ?_);((with_reducible refine NH.mk ?s ?_);case s=>(and_intros<;>first|with_reducible rfl|((with_reducible refine gOnes ?_);rfl)|((with_reducible refine gLen ?_);rfl)|omega)))|((with_reducible refine gC ?_);((with_reducible refine NCall.isF 18 ?_);refine NCall.subw [0] _ _ (c) rfl (by decide) rfl ?_; rintro _ _ ⟨G', pw', w', hle2, hrow, rfl, rfl⟩; refine ⟨Nat.le_of_ble_eq_true rfl, _, rfl, ?_⟩))|(with_reducible refine NLd.of (by with_reducible assumption) ?_))<;>(conv=>whnf))|((with_reducible refine gNO ?_);(first|(refine z36 rfl (by kernel_rfl) ?_; intro K hK; (conv=>whnf))|(refine z38 rfl (by kernel_rfl) ?_)|(refine z39 rfl rfl (by kernel_rfl) (by intro h; cases h) ?_)))|((with_reducible refine gNE ?_);(first|(refine z40 ?_ ?_; (intro K hK; (conv=>whnf)))|exact z42))|((with_reducible refine gX ?_);(first|(refine z35 (by kernel_rfl) _ rfl ?_)|(with_reducible first|refine z3 ?_|refine z4 ?_|refine z5 ?_|refine z6 ?_)|((with_reducible refine z29 ?_);intro A B hA hB;(conv=>whnf))))|(with_reducible first|refine z1 ?_|refine z2 ?_|refine z9 ?_)|((intro _;skip)<;>(conv=>whnf))))
      all_goals
        rename_i v9
        refine st_round (G', v9, ps ++ [⟨.mk zk (.mk zpk zpf zpv zpl) zf zv zl, pw', w'⟩]) ⟨hle.trans hle2, by rw [List.map_append, hmap, List.length_append, hk]; exact hnx.symm, by rw [List.length_append, hk]; exact hlt, fun x hx => ?_⟩ (by rw [List.length_append, hk]; show l.length - (i + 1) < l.length - i; omega) ?_ (MemFits.pre 5 ?_)
        · rcases List.mem_append.1 hx with hx | hx
          · exact Po.At.mono hle2 (hall x hx)
          · rw [List.mem_singleton.1 hx]; exact hrow
        · simp only [List.length_append, hk]
          repeat (first | exact FitsSl.nil | refine FitsSl.any ?_ | refine FitsSl.cons (Fit1.int (by first | rfl | omega)) ?_ | refine FitsSl.cons (Fit1.bool rfl) ?_ | refine FitsSl.cons (Fit1.str rfl) ?_ | refine FitsSl.cons (Fit1.same (by intro h; cases h) (by with_reducible rfl)) ?_ | refine FitsSl.cons Fit1.nil_sl ?_ | refine FitsSl.cons (Fit1.hs rfl) ?_ | refine FitsSl.cons (Fit1.hp rfl rfl) ?_ | refine FitsSl.cons (Fit1.sl rfl) ?_ | refine FitsSl.cons (Fit1.ptr rfl rfl) ?_ | refine FitsSl.cons Fit1.raw ?_)
        · simp only [autoM, List.take, List.length_append, hk, hpn]
          rw [show i + [(⟨.mk zk (.mk zpk zpf zpv zpl) zf zv zl, pw', w'⟩ : Po.L)].length = i + 1 from rfl]
          rfl
    · have hkl : i = l.length := by omega
      subst hkl
      rw [List.take_length] at hmap
      clear ih
      (repeat' (first|(with_reducible first|(refine hK _ _ ?_;clear hK K)|(refine hB ?_;clear hA hB A B)|(refine hK _ ?_;clear hK K))|((with_reducible refine gO ?_);(first|((with_reducible first|refine z25 ?_|refine z26 ?_);intro K hK;(conv=>whnf))|(with_reducible refine z0 ?_)))|((first|((with_reducible refine gI ?_);(first|((with_reducible refine NIf.decN ?s ?_);case s=>first|assumption|omega)|((with_reducible refine NIf.no ?s ?_);case s=>rfl)))|((with_reducible refine gN ?_);(with_reducible refine NN.a5 ?_))|((with_reducible refine gH ?_);((with_reducible refine NH.mk ?s ?_);case s=>(and_intros<;>first|with_reducible rfl|((with_reducible refine gOnes ?_);rfl)|((with_reducible refine gLen ?_);rfl)))))<;>(conv=>whnf))|((with_reducible refine gX ?_);(first|(with_reducible first|refine z3 ?_|refine z4 ?_|refine z6 ?_|refine z7 ?_|refine z8 ?_)|((with_reducible refine z29 ?_);intro A B hA hB;(conv=>whnf))))|(with_reducible first|refine z1 ?_|refine z2 ?_|refine z10 ?_|refine z11 ?_|refine z19 ?_)|((with_reducible refine gR ?_);((refine z31 rfl ?_);intro K hK;(conv=>whnf)))))
      all_goals exact .inl ⟨G, .slice .none 0 0, w, ps, hle, hmap, hall, Pd.nilRow G, by simp only [Po.cs, Po.T.k, Po.T.p, Po.T.f, Po.T.v, Po.T.l, Pd.T.k, Pd.T.f, Pd.T.v, Pd.T.l, List.length_map]; rfl, by rw [hk]; exact MemFits.pick [0, 4] (by decide) rfl⟩
theorem at27_in1 (F : Heap) (k f v : Int) (p : Pd.T) (l : List Po.T) (pu u : Value) (sw : Int) (hkk : k = 1) (hs : Pd.size p ≤ 1000000000000) (hl : l.length ≤ 8) (h5 : k = 5 → l.length = 2) (hpf : (k = 1 ∨ k = 5) → Pd.fits p = true) (hu : Po.Row F u l) (hpu : Pd.Row F pu p.l)
    (ih : ∀ G, ∀ y ∈ l, ∀ pw w, Po.At G y pw w → NCall Tryz.prog 18 [.agg (Po.cs y pw w), .int .i64 sw] [hpB G] fun r m => Po.Lays G (Po.spec sw y) r m) :
    NCall Tryz.prog 18 [.agg (Po.cs (.mk k p f v l) pu u), .int .i64 sw] [hpB F] fun r m => Po.Out F 39 (Po.spec sw (.mk k p f v l)) r m := by
  have hok := hu.ok
  have hpok := hpu.ok
  have hk15 : k = 1 ∨ k = 5 := by omega
  have cp := cut26_c _ F p pu sw (Nat.le_refl _) hs (hpf hk15) hpu
  have hq0 := Pd.fits_k (Pd.cut_fits sw p (hpf hk15))
  have hX1 : k = 5 → (Pd.cut sw p).k ≤ 2 → Po.spec sw (.mk k p f v l) = (l.map (Po.spec sw))[((Pd.cut sw p).k - 1).toNat]?.getD Po.zero := fun h1 h2 => by rw [Po.spec_mk, if_pos ⟨h1, h2⟩]
  have hX2 : ¬ (k = 5 ∧ (Pd.cut sw p).k ≤ 2) → Po.spec sw (.mk k p f v l) = .mk k (Pd.cut sw p) f v (l.map (Po.spec sw)) := fun h => by rw [Po.spec_mk, if_neg h, if_pos hk15]
  generalize Po.spec sw (.mk k p f v l) = X at *
  generalize Pd.cut sw p = q at *
  rw [po_cs]
  clear hpf hk15
  obtain ⟨pk, pf, pv, pl⟩ := p
  obtain ⟨qk, qf, qv, ql⟩ := q
  simp only [Pd.Lays, pd_cs, Pd.T.k, Pd.T.f, Pd.T.v, Pd.T.l] at *
  subst hkk
  refine ncall_of Tryz.func18 rfl (by decide) ?_
  (repeat' (first|(with_reducible first|(refine hK _ _ ?_;clear hK K)|(refine hA ?_;clear hA hB A B)|(refine hK _ ?_;clear hK K))|((with_reducible refine gO ?_);(first|((with_reducible first|refine z25 ?_|refine z26 ?_);intro K hK;(conv=>whnf))|(with_reducible refine z0 ?_)))|((first|((with_reducible refine gI ?_);(first|((with_reducible refine NIf.decY ?s ?_);case s=>with_reducible rfl)|((with_reducible refine NIf.yes ?s ?_);case s=>rfl)))|((with_reducible refine gN ?_);(with_reducible refine NN.a5 ?_))|((with_reducible refine gH ?_);((with_reducible refine NH.mk ?s ?_);case s=>(and_intros<;>first|with_reducible rfl|((with_reducible refine gOnes ?_);rfl)|((with_reducible refine gLen ?_);rfl)|omega)))|((with_reducible refine gC ?_);((with_reducible refine NCall.isF 22 ?_);refine NCall.subw [0] _ _ (cp) rfl (by decide) rfl ?_; rintro _ _ ⟨F1, pu1, hle1, hpu1, rfl, rfl⟩; refine ⟨Nat.le_of_ble_eq_true rfl, _, rfl, ?_⟩)))<;>(conv=>whnf))|((with_reducible refine gX ?_);(first|(with_reducible first|refine z3 ?_|refine z4 ?_|refine z5 ?_)|((with_reducible refine z29 ?_);intro A B hA hB;(conv=>whnf))))|(with_reducible first|refine z1 ?_|refine z2 ?_)|((with_reducible refine gF ?_);((refine z33 rfl ?_);intro K hK;(conv=>whnf)))|((intro _;skip)<;>(conv=>whnf))))
  all_goals
    have hpok1 := hpu1.ok
    refine st_auto (α := Heap × Value × List Po.L) (fun (G, w, ps) => F1.le G ∧ ps.map (·.x) = (l.take ps.length).map (Po.spec sw) ∧ ps.length ≤ l.length ∧ ∀ p ∈ ps, Po.At G p.x p.pu p.u) (fun (G, w, ps) => [.keep, .keep, .keep, .keep, .keep, .keep, .keep, .drop, .keep, .keep, .keep, .keep, .keep, .keep, .keep, .keep, .keep, .keep, .keep, .keep, .keep, .keep, .keep, .keep, .keep, .keep, .keep, .keep, .keep, .keep, .keep, .set (.int .i64 ps.length), .drop, .drop, .drop, .drop, .drop, .drop, .drop, .drop, .drop, .drop, .drop, .drop, .keep, .keep, .keep, .keep, .keep, .keep, .keep, .keep, .keep, .keep, .keep, .keep, .keep, .keep, .keep, .keep, .keep, .keep])
      (fun (G, w, ps) => [.set (hpB G), .keep, .keep, .cells [.int .i64 1, .int .i64 qk, .int .i64 qf, .int .i64 qv, .hs pu1 ql.length, .int .i64 f, .int .i64 v, .sl 4 w ps.length], .set ⟨addrOf w, Po.psC ps, .row w 39 8 ps.length⟩]) (fun (G, w, ps) => l.length - ps.length) (F1, .slice .none 0 0, []) ⟨F1.le_refl, rfl, Nat.zero_le _, fun p hp => by simp at hp⟩ ?_ ((MemFits.nilRow _ 39 8).trans (MemFits.congr rfl)) ?_
    · repeat (first | exact FitsSl.nil | refine FitsSl.any ?_ | refine FitsSl.cons (Fit1.int (by first | rfl | omega)) ?_ | refine FitsSl.cons (Fit1.bool rfl) ?_ | refine FitsSl.cons (Fit1.str rfl) ?_ | refine FitsSl.cons (Fit1.same (by intro h; cases h) (by with_reducible rfl)) ?_ | refine FitsSl.cons Fit1.nil_sl ?_ | refine FitsSl.cons (Fit1.hs rfl) ?_ | refine FitsSl.cons (Fit1.hp rfl rfl) ?_ | refine FitsSl.cons (Fit1.sl rfl) ?_ | refine FitsSl.cons (Fit1.ptr rfl rfl) ?_ | refine FitsSl.cons Fit1.raw ?_)
    (intro ⟨G, w, ps⟩ ⟨hle, hmap, hlen, hall⟩; intro K hK; (conv=>whnf); refine hK _ _ ?_; clear hK K)
    dsimp only
    generalize hk : ps.length = i at *
    by_cases hlt : i < l.length
    · have hx : l[i]? = some l[i] := List.getElem?_eq_getElem hlt
      obtain ⟨pA, pcap, A, cap, hA, c0, c1, c2, c3, c4, c5, c6, c7⟩ := (Po.Row.mono (hle1.trans hle) hu).get hx
      have hAo := hA.l.ok
      have hAp := hA.p.ok
      have hmem := List.mem_of_getElem? hx
      have c := ih G _ hmem _ _ hA
      have hnx : (l.take (i + 1)).map (Po.spec sw) = (l.take i).map (Po.spec sw) ++ [Po.spec sw l[i]] := by rw [List.take_add_one, hx, List.map_append]; rfl
      clear ih
      generalize Po.spec sw l[i] = z at *
      generalize l[i] = y at *
      have hpl := Po.psC_len ps
      have hpn := Po.psC_next ps
      generalize hpc : Po.psC ps = pc at *
      obtain ⟨yk, ⟨ypk, ypf, ypv, ypl⟩, yf, yv, yl⟩ := y
      obtain ⟨zk, ⟨zpk, zpf, zpv, zpl⟩, zf, zv, zl⟩ := z
      simp only [Po.Lays, Po.cs, Po.T.k, Po.T.p, Po.T.f, Po.T.v, Po.T.l, Pd.T.k, Pd.T.f, Pd.T.v, Pd.T.l] at c c0 c1 c2 c3 c4 c5 c6 c7 hAo hAp
      (repeat' (first|(with_reducible first|(refine hK _ _ ?_;clear hK K)|(refine hA ?_;clear hA hB A B)|(refine hK _ ?_;clear hK K))|((with_reducible refine gO ?_);(first|((with_reducible refine z25 ?_);intro K hK;(conv=>whnf))|(with_reducible refine z0 ?_)))|((first|((with_reducible refine gV ?_);(((with_reducible refine NV.i64 ?s ?_);case s=>omega)))|((with_reducible refine gI ?_);(((with_reducible refine NIf.decY ?s ?_);case s=>omega)))|((with_reducible refine gN ?_);(with_reducible first|refine NN.cast ?_|refine NN.a5 ?_|refine NN.keep ?_))|((with_reducible refine gH ?_);((with_reducible refine NH.mk ?s ?_);case s=>(and_intros<;>first|with_reducible rfl|((with_reducible refine gOnes ?_);rfl)|((with_reducible refine gLen ?_);rfl)|omega)))|((with_reducible refine gC ?_);((with_reducible refine NCall.isF 18 ?_);refine NCall.subw [0] _ _ (c) rfl (by decide) rfl ?_; rintro _ _ ⟨G', pw', w', hle2, hrow, rfl, rfl⟩; refine ⟨Nat.le_of_ble_eq_true rfl, _, rfl, ?_⟩))|(with_reducible refine NLd.of (by with_reducible assumption) ?_))<;>(conv=>whnf))|((with_reducible refine gNO ?_);(first|(refine z36 rfl (by kernel_rfl) ?_; intro K hK; (conv=>whnf))|(refine z38 rfl (by kernel_rfl) ?_)|(refine z39 rfl rfl (by kernel_rfl) (by intro h; cases h) ?_)))|((with_reducible refine gNE ?_);(first|(refine z40 ?_ ?_; (intro K hK; (conv=>whnf)))|exact z42))|((with_reducible refine gX ?_);(first|(refine z35 (by kernel_rfl) _ rfl ?_)|(with_reducible first|refine z3 ?_|refine z4 ?_|refine z5 ?_|refine z6 ?_)|((with_reducible refine z29 ?_);intro A B hA hB;(conv=>whnf))))|(with_reducible first|refine z1 ?_|refine z2 ?_|refine z9 ?_)|((intro _;skip)<;>(conv=>whnf))))
      all_goals
        rename_i v9
        refine st_round (G', v9, ps ++ [⟨.mk zk (.mk zpk zpf zpv zpl) zf zv zl, pw', w'⟩]) ⟨hle.trans hle2, by rw [List.map_append, hmap, List.length_append, hk]; exact hnx.symm, by rw [List.length_append, hk]; exact hlt, fun x hx => ?_⟩ (by rw [List.length_append, hk]; show l.length - (i + 1) < l.length - i; omega) ?_ (MemFits.pre 5 ?_)
        · rcases List.mem_append.1 hx with hx | hx
          · exact Po.At.mono hle2 (hall x hx)
          · rw [List.mem_singleton.1 hx]; exact hrow
        · simp only [List.length_append, hk]
          repeat (first | exact FitsSl.nil | refine FitsSl.any ?_ | refine FitsSl.cons (Fit1.int (by first | rfl | omega)) ?_ | refine FitsSl.cons (Fit1.bool rfl) ?_ | refine FitsSl.cons (Fit1.str rfl) ?_ | refine FitsSl.cons (Fit1.same (by intro h; cases h) (by with_reducible rfl)) ?_ | refine FitsSl.cons Fit1.nil_sl ?_ | refine FitsSl.cons (Fit1.hs rfl) ?_ | refine FitsSl.cons (Fit1.hp rfl rfl) ?_ | refine FitsSl.cons (Fit1.sl rfl) ?_ | refine FitsSl.cons (Fit1.ptr rfl rfl) ?_ | refine FitsSl.cons Fit1.raw ?_)
        · simp only [autoM, List.take, List.length_append, hk, hpn]
          rw [show i + [(⟨.mk zk (.mk zpk zpf zpv zpl) zf zv zl, pw', w'⟩ : Po.L)].length = i + 1 from rfl]
          rfl
    · have hkl : i = l.length := by omega
      subst hkl
      rw [List.take_length] at hmap
      clear ih cp
      have hX2 := hX2 (fun h => absurd h.1 (by decide))
      rw [hX2]
      clear hX1 hX2 h5
      (repeat' (first|(with_reducible first|(refine hK _ _ ?_;clear hK K)|(refine hB ?_;clear hA hB A B)|(refine hK _ ?_;clear hK K))|((with_reducible refine gO ?_);(first|((with_reducible first|refine z25 ?_|refine z26 ?_);intro K hK;(conv=>whnf))|(with_reducible refine z0 ?_)))|((first|((with_reducible refine gI ?_);(first|((with_reducible refine NIf.decN ?s ?_);case s=>omega)|((with_reducible refine NIf.no ?s ?_);case s=>rfl)))|((with_reducible refine gN ?_);(with_reducible refine NN.a5 ?_))|((with_reducible refine gH ?_);((with_reducible refine NH.mk ?s ?_);case s=>(and_intros<;>first|with_reducible rfl|((with_reducible refine gOnes ?_);rfl)|((with_reducible refine gLen ?_);rfl)))))<;>(conv=>whnf))|((with_reducible refine gX ?_);(first|(with_reducible first|refine z3 ?_|refine z4 ?_|refine z6 ?_|refine z7 ?_|refine z8 ?_)|((with_reducible refine z29 ?_);intro A B hA hB;(conv=>whnf))))|(with_reducible first|refine z1 ?_|refine z2 ?_|refine z10 ?_|refine z11 ?_|refine z19 ?_)|((with_reducible refine gR ?_);((refine z31 rfl ?_);intro K hK;(conv=>whnf)))))
      all_goals exact .inl ⟨G, pu1, w, ps, hle1.trans hle, hmap, hall, Pd.Row.mono hle hpu1, by simp only [Po.cs, Po.T.k, Po.T.p, Po.T.f, Po.T.v, Po.T.l, Pd.T.k, Pd.T.f, Pd.T.v, Pd.T.l, List.length_map]; rfl, by rw [hk]; exact MemFits.pick [0, 4] (by decide) rfl⟩
theorem at27_in5 (F : Heap) (k f v : Int) (p : Pd.T) (l : List Po.T) (pu u : Value) (sw : Int) (hkk : k = 5) (hs : Pd.size p ≤ 1000000000000) (hl : l.length ≤ 8) (h5 : k = 5 → l.length = 2) (hpf : (k = 1 ∨ k = 5) → Pd.fits p = true) (hu : Po.Row F u l) (hpu : Pd.Row F pu p.l)
    (ih : ∀ G, ∀ y ∈ l, ∀ pw w, Po.At G y pw w → NCall Tryz.prog 18 [.agg (Po.cs y pw w), .int .i64 sw] [hpB G] fun r m => Po.Lays G (Po.spec sw y) r m) :
    NCall Tryz.prog 18 [.agg (Po.cs (.mk k p f v l) pu u), .int .i64 sw] [hpB F] fun r m => Po.Out F 39 (Po.spec sw (.mk k p f v l)) r m := by
  have hok := hu.ok
  have hpok := hpu.ok
  have hk15 : k = 1 ∨ k = 5 := by omega
  have cp := cut26_c _ F p pu sw (Nat.le_refl _) hs (hpf hk15) hpu
  have hq0 := Pd.fits_k (Pd.cut_fits sw p (hpf hk15))
  have hX1 : k = 5 → (Pd.cut sw p).k ≤ 2 → Po.spec sw (.mk k p f v l) = (l.map (Po.spec sw))[((Pd.cut sw p).k - 1).toNat]?.getD Po.zero := fun h1 h2 => by rw [Po.spec_mk, if_pos ⟨h1, h2⟩]
  have hX2 : ¬ (k = 5 ∧ (Pd.cut sw p).k ≤ 2) → Po.spec sw (.mk k p f v l) = .mk k (Pd.cut sw p) f v (l.map (Po.spec sw)) := fun h => by rw [Po.spec_mk, if_neg h, if_pos hk15]
  generalize Po.spec sw (.mk k p f v l) = X at *
  generalize Pd.cut sw p = q at *
  rw [po_cs]
  clear hpf hk15
  obtain ⟨pk, pf, pv, pl⟩ := p
  obtain ⟨qk, qf, qv, ql⟩ := q
  simp only [Pd.Lays, pd_cs, Pd.T.k, Pd.T.f, Pd.T.v, Pd.T.l] at *
  subst hkk
  refine ncall_of Tryz.func18 rfl (by decide) ?_
  (repeat' (first|(with_reducible first|(refine hK _ _ ?_;clear hK K)|(refine hA ?_;clear hA hB A B)|(refine hK _ ?_;clear hK K))|((with_reducible refine gO ?_);(first|((with_reducible first|refine z25 ?_|refine z26 ?_);intro K hK;(conv=>whnf))|(with_reducible refine z0 ?_)))|((first|((with_reducible refine gI ?_);(first|((with_reducible refine NIf.decY ?s ?_);case s=>with_reducible rfl)|((with_reducible refine NIf.decN ?s ?_);case s=>omega)))|((with_reducible refine gN ?_);(with_reducible refine NN.a5 ?_))|((with_reducible refine gH ?_);((with_reducible refine NH.mk ?s ?_);case s=>(and_intros<;>first|with_reducible rfl|((with_reducible refine gOnes ?_);rfl)|((with_reducible refine gLen ?_);rfl)|omega)))|((with_reducible refine gC ?_);((with_reducible refine NCall.isF 22 ?_);refine NCall.subw [0] _ _ (cp) rfl (by decide) rfl ?_; rintro _ _ ⟨F1, pu1, hle1, hpu1, rfl, rfl⟩; refine ⟨Nat.le_of_ble_eq_true rfl, _, rfl, ?_⟩)))<;>(conv=>whnf))|((with_reducible refine gX ?_);(first|(with_reducible first|refine z3 ?_|refine z4 ?_|refine z5 ?_)|((with_reducible refine z29 ?_);intro A B hA hB;(conv=>whnf))))|(with_reducible first|refine z1 ?_|refine z2 ?_)|((with_reducible refine gF ?_);((refine z33 rfl ?_);intro K hK;(conv=>whnf)))|((intro _;skip)<;>(conv=>whnf))))
  all_goals
    have hpok1 := hpu1.ok
    refine st_auto (α := Heap × Value × List Po.L) (fun (G, w, ps) => F1.le G ∧ ps.map (·.x) = (l.take ps.length).map (Po.spec sw) ∧ ps.length ≤ l.length ∧ ∀ p ∈ ps, Po.At G p.x p.pu p.u) (fun (G, w, ps) => [.keep, .keep, .keep, .keep, .keep, .keep, .keep, .drop, .keep, .keep, .keep, .keep, .keep, .keep, .keep, .keep, .keep, .keep, .keep, .keep, .keep, .keep, .keep, .keep, .keep, .keep, .keep, .keep, .keep, .keep, .keep, .set (.int .i64 ps.length), .drop, .drop, .drop, .drop, .drop, .drop, .drop, .drop, .drop, .drop, .drop, .drop, .keep, .keep, .keep, .keep, .keep, .keep, .keep, .keep, .keep, .keep, .keep, .keep, .keep, .keep, .keep, .keep, .keep, .keep])
      (fun (G, w, ps) => [.set (hpB G), .keep, .keep, .cells [.int .i64 5, .int .i64 qk, .int .i64 qf, .int .i64 qv, .hs pu1 ql.length, .int .i64 f, .int .i64 v, .sl 4 w ps.length], .set ⟨addrOf w, Po.psC ps, .row w 39 8 ps.length⟩]) (fun (G, w, ps) => l.length - ps.length) (F1, .slice .none 0 0, []) ⟨F1.le_refl, rfl, Nat.zero_le _, fun p hp => by simp at hp⟩ ?_ ((MemFits.nilRow _ 39 8).trans (MemFits.congr rfl)) ?_
    · repeat (first | exact FitsSl.nil | refine FitsSl.any ?_ | refine FitsSl.cons (Fit1.int (by first | rfl | omega)) ?_ | refine FitsSl.cons (Fit1.bool rfl) ?_ | refine FitsSl.cons (Fit1.str rfl) ?_ | refine FitsSl.cons (Fit1.same (by intro h; cases h) (by with_reducible rfl)) ?_ | refine FitsSl.cons Fit1.nil_sl ?_ | refine FitsSl.cons (Fit1.hs rfl) ?_ | refine FitsSl.cons (Fit1.hp rfl rfl) ?_ | refine FitsSl.cons (Fit1.sl rfl) ?_ | refine FitsSl.cons (Fit1.ptr rfl rfl) ?_ | refine FitsSl.cons Fit1.raw ?_)
    (intro ⟨G, w, ps⟩ ⟨hle, hmap, hlen, hall⟩; intro K hK; (conv=>whnf); refine hK _ _ ?_; clear hK K)
    dsimp only
    generalize hk : ps.length = i at *
    by_cases hlt : i < l.length
    · have hx : l[i]? = some l[i] := List.getElem?_eq_getElem hlt
      obtain ⟨pA, pcap, A, cap, hA, c0, c1, c2, c3, c4, c5, c6, c7⟩ := (Po.Row.mono (hle1.trans hle) hu).get hx
      have hAo := hA.l.ok
      have hAp := hA.p.ok
      have hmem := List.mem_of_getElem? hx
      have c := ih G _ hmem _ _ hA
      have hnx : (l.take (i + 1)).map (Po.spec sw) = (l.take i).map (Po.spec sw) ++ [Po.spec sw l[i]] := by rw [List.take_add_one, hx, List.map_append]; rfl
      clear ih
      generalize Po.spec sw l[i] = z at *
      generalize l[i] = y at *
      have hpl := Po.psC_len ps
      have hpn := Po.psC_next ps
      generalize hpc : Po.psC ps = pc at *
      obtain ⟨yk, ⟨ypk, ypf, ypv, ypl⟩, yf, yv, yl⟩ := y
      obtain ⟨zk, ⟨zpk, zpf, zpv, zpl⟩, zf, zv, zl⟩ := z
      simp only [Po.Lays, Po.cs, Po.T.k, Po.T.p, Po.T.f, Po.T.v, Po.T.l, Pd.T.k, Pd.T.f, Pd.T.v, Pd.T.l] at c c0 c1 c2 c3 c4 c5 c6 c7 hAo hAp
      (repeat' (first|(with_reducible first|(refine hK _ _ ?_;clear hK K)|(refine hA ?_;clear hA hB A B)|(refine hK _ ?_;clear hK K))|((with_reducible refine gO ?_);(first|((with_reducible refine z25 ?_);intro K hK;(conv=>whnf))|(with_reducible refine z0 ?_)))|((first|((with_reducible refine gV ?_);(((with_reducible refine NV.i64 ?s ?_);case s=>omega)))|((with_reducible refine gI ?_);(((with_reducible refine NIf.decY ?s ?_);case s=>omega)))|((with_reducible refine gN ?_);(with_reducible first|refine NN.cast ?_|refine NN.a5 ?_|refine NN.keep ?_))|((with_reducible refine gH ?_);((with_reducible refine NH.mk ?s ?_);case s=>(and_intros<;>first|with_reducible rfl|((with_reducible refine gOnes ?_);rfl)|((with_reducible refine gLen ?_);rfl)|omega)))|((with_reducible refine gC ?_);((with_reducible refine NCall.isF 18 ?_);refine NCall.subw [0] _ _ (c) rfl (by decide) rfl ?_; rintro _ _ ⟨G', pw', w', hle2, hrow, rfl, rfl⟩; refine ⟨Nat.le_of_ble_eq_true rfl, _, rfl, ?_⟩))|(with_reducible refine NLd.of (by with_reducible assumption) ?_))<;>(conv=>whnf))|((with_reducible refine gNO ?_);(first|(refine z36 rfl (by kernel_rfl) ?_; intro K hK; (conv=>whnf))|(refine z38 rfl (by kernel_rfl) ?_)|(refine z39 rfl rfl (by kernel_rfl) (by intro h; cases h) ?_)))|((with_reducible refine gNE ?_);(first|(refine z40 ?_ ?_; (intro K hK; (conv=>whnf)))|exact z42))|((with_reducible refine gX ?_);(first|(refine z35 (by kernel_rfl) _ rfl ?_)|(with_reducible first|refine z3 ?_|refine z4 ?_|refine z5 ?_|refine z6 ?_)|((with_reducible refine z29 ?_);intro A B hA hB;(conv=>whnf))))|(with_reducible first|refine z1 ?_|refine z2 ?_|refine z9 ?_)|((intro _;skip)<;>(conv=>whnf))))
      all_goals
        rename_i v9
        refine st_round (G', v9, ps ++ [⟨.mk zk (.mk zpk zpf zpv zpl) zf zv zl, pw', w'⟩]) ⟨hle.trans hle2, by rw [List.map_append, hmap, List.length_append, hk]; exact hnx.symm, by rw [List.length_append, hk]; exact hlt, fun x hx => ?_⟩ (by rw [List.length_append, hk]; show l.length - (i + 1) < l.length - i; omega) ?_ (MemFits.pre 5 ?_)
        · rcases List.mem_append.1 hx with hx | hx
          · exact Po.At.mono hle2 (hall x hx)
          · rw [List.mem_singleton.1 hx]; exact hrow
        · simp only [List.length_append, hk]
          repeat (first | exact FitsSl.nil | refine FitsSl.any ?_ | refine FitsSl.cons (Fit1.int (by first | rfl | omega)) ?_ | refine FitsSl.cons (Fit1.bool rfl) ?_ | refine FitsSl.cons (Fit1.str rfl) ?_ | refine FitsSl.cons (Fit1.same (by intro h; cases h) (by with_reducible rfl)) ?_ | refine FitsSl.cons Fit1.nil_sl ?_ | refine FitsSl.cons (Fit1.hs rfl) ?_ | refine FitsSl.cons (Fit1.hp rfl rfl) ?_ | refine FitsSl.cons (Fit1.sl rfl) ?_ | refine FitsSl.cons (Fit1.ptr rfl rfl) ?_ | refine FitsSl.cons Fit1.raw ?_)
        · simp only [autoM, List.take, List.length_append, hk, hpn]
          rw [show i + [(⟨.mk zk (.mk zpk zpf zpv zpl) zf zv zl, pw', w'⟩ : Po.L)].length = i + 1 from rfl]
          rfl
    · have hkl : i = l.length := by omega
      subst hkl
      rw [List.take_length] at hmap
      clear ih cp
      by_cases hq2 : qk ≤ 2
      · have hX1 := hX1 rfl hq2
        rw [hX1]
        clear hX1 hX2
        have hl2 := h5 rfl
        match l, hl2, ps, hk, hmap with
        | [a, b], _, [x, y], _, hmap =>
          have hax : x.x = Po.spec sw a ∧ y.x = Po.spec sw b := by simpa using hmap
          by_cases hq1 : qk = 1
          · subst hq1
            have hq : [x, y][0]? = some x := rfl
            (repeat' (first|(with_reducible first|(refine hK _ _ ?_;clear hK K)|(refine hA ?_;clear hA hB A B)|(refine hB ?_;clear hA hB A B)|(refine hK _ ?_;clear hK K))|((with_reducible refine gO ?_);(first|((with_reducible first|refine z25 ?_|refine z26 ?_);intro K hK;(conv=>whnf))|(with_reducible refine z0 ?_)))|((first|((with_reducible refine gV ?_);(((with_reducible refine NV.i64 ?s ?_);case s=>omega)))|((with_reducible refine gI ?_);(first|((with_reducible refine NIf.decY ?s ?_);case s=>first|with_reducible rfl|assumption)|((with_reducible refine NIf.decN ?s ?_);case s=>omega)))|((with_reducible refine gN ?_);(with_reducible first|refine NN.a5 ?_|refine NN.a6 ?_|refine NN.keep ?_))|((with_reducible refine gH ?_);((with_reducible refine NH.mk ?s ?_);case s=>(and_intros<;>first|with_reducible rfl|((with_reducible refine gOnes ?_);rfl)|((with_reducible refine gLen ?_);rfl)|omega))))<;>(conv=>whnf))|((with_reducible refine gX ?_);(first|(with_reducible first|refine z3 ?_|refine z4 ?_|refine z7 ?_|refine z8 ?_)|((with_reducible refine z29 ?_);intro A B hA hB;(conv=>whnf))))|(with_reducible first|refine z1 ?_|refine z2 ?_|refine z10 ?_|refine z11 ?_|refine z12 ?_|refine z19 ?_)|((with_reducible refine gR ?_);((refine z31 rfl ?_);intro K hK;(conv=>whnf)))))
            all_goals exact .inr ⟨G, x.pu, x.u, hle1.trans hle, by show Po.At G (Po.spec sw a) x.pu x.u; rw [← hax.1]; exact hall x (by simp), by show _ = (AV.agg (Po.cs (Po.spec sw a) x.pu x.u)).den; rw [← hax.1]; rfl, MemFits.pre 1 rfl⟩
          · obtain rfl : qk = 2 := by omega
            have hq : [x, y][1]? = some y := rfl
            (repeat' (first|(with_reducible first|(refine hK _ _ ?_;clear hK K)|(refine hA ?_;clear hA hB A B)|(refine hB ?_;clear hA hB A B)|(refine hK _ ?_;clear hK K))|((with_reducible refine gO ?_);(first|((with_reducible first|refine z25 ?_|refine z26 ?_);intro K hK;(conv=>whnf))|(with_reducible refine z0 ?_)))|((first|((with_reducible refine gV ?_);(((with_reducible refine NV.i64 ?s ?_);case s=>omega)))|((with_reducible refine gI ?_);(first|((with_reducible refine NIf.decY ?s ?_);case s=>first|with_reducible rfl|assumption)|((with_reducible refine NIf.decN ?s ?_);case s=>omega)))|((with_reducible refine gN ?_);(with_reducible first|refine NN.a5 ?_|refine NN.a6 ?_|refine NN.keep ?_))|((with_reducible refine gH ?_);((with_reducible refine NH.mk ?s ?_);case s=>(and_intros<;>first|with_reducible rfl|((with_reducible refine gOnes ?_);rfl)|((with_reducible refine gLen ?_);rfl)|omega))))<;>(conv=>whnf))|((with_reducible refine gX ?_);(first|(with_reducible first|refine z3 ?_|refine z4 ?_|refine z7 ?_|refine z8 ?_)|((with_reducible refine z29 ?_);intro A B hA hB;(conv=>whnf))))|(with_reducible first|refine z1 ?_|refine z2 ?_|refine z10 ?_|refine z11 ?_|refine z12 ?_|refine z19 ?_)|((with_reducible refine gR ?_);((refine z31 rfl ?_);intro K hK;(conv=>whnf)))))
            all_goals exact .inr ⟨G, y.pu, y.u, hle1.trans hle, by show Po.At G (Po.spec sw b) y.pu y.u; rw [← hax.2]; exact hall y (by simp), by show _ = (AV.agg (Po.cs (Po.spec sw b) y.pu y.u)).den; rw [← hax.2]; rfl, MemFits.pre 1 rfl⟩
      · have hX2 := hX2 (fun h => hq2 h.2)
        rw [hX2]
        clear hX1 hX2
        (repeat' (first|(with_reducible first|(refine hK _ _ ?_;clear hK K)|(refine hB ?_;clear hA hB A B)|(refine hK _ ?_;clear hK K))|((with_reducible refine gO ?_);(first|((with_reducible first|refine z25 ?_|refine z26 ?_);intro K hK;(conv=>whnf))|(with_reducible refine z0 ?_)))|((first|((with_reducible refine gI ?_);(first|((with_reducible refine NIf.decY ?s ?_);case s=>with_reducible rfl)|((with_reducible refine NIf.decN ?s ?_);case s=>first|assumption|omega)))|((with_reducible refine gN ?_);(with_reducible first|refine NN.a5 ?_|refine NN.a6 ?_))|((with_reducible refine gH ?_);((with_reducible refine NH.mk ?s ?_);case s=>(and_intros<;>first|with_reducible rfl|((with_reducible refine gOnes ?_);rfl)|((with_reducible refine gLen ?_);rfl)))))<;>(conv=>whnf))|((with_reducible refine gX ?_);(first|(with_reducible first|refine z3 ?_|refine z4 ?_|refine z6 ?_|refine z7 ?_|refine z8 ?_)|((with_reducible refine z29 ?_);intro A B hA hB;(conv=>whnf))))|(with_reducible first|refine z1 ?_|refine z2 ?_|refine z10 ?_|refine z11 ?_|refine z19 ?_)|((with_reducible refine gR ?_);((refine z31 rfl ?_);intro K hK;(conv=>whnf)))))
        all_goals exact .inl ⟨G, pu1, w, ps, hle1.trans hle, hmap, hall, Pd.Row.mono hle hpu1, by simp only [Po.cs, Po.T.k, Po.T.p, Po.T.f, Po.T.v, Po.T.l, Pd.T.k, Pd.T.f, Pd.T.v, Pd.T.l, List.length_map]; rfl, by rw [hk]; exact MemFits.pick [0, 4] (by decide) rfl⟩
theorem at27_c : ∀ (n : Nat) (F : Heap) (x : Po.T) (pu u : Value) (sw : Int), Po.tot x ≤ n → Po.tot x ≤ 1000000000000 → Po.fits x = true → Po.At F x pu u →
    NCall Tryz.prog 18 [.agg (Po.cs x pu u), .int .i64 sw] [hpB F] fun r m => Po.Lays F (Po.spec sw x) r m
  | 0, F, x, pu, u, sw, hn, _, _, _ => absurd (Po.tot_pos x) (by omega)
  | n + 1, F, ⟨k, p, f, v, l⟩, pu, u, sw, hn, hs, hf, hx => by
    refine Po.out_know (t := 39) ?_
    have hu : Po.Row F u l := hx.l
    have hpu : Pd.Row F pu p.l := hx.p
    have e2 := Po.tot_mk k p f v l
    obtain ⟨hsh, hfl⟩ := Po.fits_iff.1 hf
    have ih : ∀ G, ∀ y ∈ l, ∀ pw w, Po.At G y pw w → NCall Tryz.prog 18 [.agg (Po.cs y pw w), .int .i64 sw] [hpB G] fun r m => Po.Lays G (Po.spec sw y) r m := fun G y hy pw w hw => at27_c n G y pw w sw (by have := Po.tot_lt (k := k) (q := p) (f := f) (v := v) hy; omega) (by have := Po.tot_lt (k := k) (q := p) (f := f) (v := v) hy; omega) (hfl y hy) hw
    have hl : l.length ≤ 8 := by omega
    have h5 : k = 5 → l.length = 2 := fun h => by omega
    have hpf : (k = 1 ∨ k = 5) → Pd.fits p = true := fun h => by
      have : Pd.right p = true := by
        rcases hsh with h1 | h1 | h1 | h1
        · exact h1.2.1
        · omega
        · omega
        · exact h1.2.1
      exact Po.right_fits this
    by_cases hk1 : k = 1
    · exact at27_in1 F k f v p l pu u sw hk1 (by omega) hl h5 hpf hu hpu ih
    by_cases hk5 : k = 5
    · exact at27_in5 F k f v p l pu u sw hk5 (by omega) hl h5 hpf hu hpu ih
    · exact at27_out F k f v p l pu u sw (by omega) (by omega) hl h5 hpf hu hpu ih
end Go.Proofs.YtpkjnmddembkjaaGreatDoor
namespace Go.Proofs.YtpkjnmddembkjaaGreatDoor
open Go.Sx
set_option maxRecDepth 20000
set_option linter.unusedSimpArgs false
set_option linter.unusedVariables false
set_option maxHeartbeats 4000000
set_option linter.unusedVariables false
namespace Pd
theorem fold_neg {k f v out d : Int} {L : List T} {ps : List (T × Value)} (h : ∀ x ∈ L, ¬ x.k = d) (he : ps.map (·.1) = L.filter (fun x => !decide (x.k = out))) : fold k f v out d L = match ps.map (·.1) with
    | [] => .mk out 0 0 []
    | [x] => x
    | x :: y :: r => .mk k f v (x :: y :: r) := by
  unfold fold
  have : ¬ (L.any fun x => decide (x.k = d)) = true := fun hh => by
    obtain ⟨y, hy, e⟩ := any_k hh
    exact h y hy e
  rw [if_neg this, he]
  rfl
theorem fold_one {k f v out d : Int} {L : List T} {y : T} (hy : y ∈ L) (hk : y.k = d) : fold k f v out d L = .mk d 0 0 [] := by
  unfold fold
  rw [if_pos (List.any_eq_true.2 ⟨y, hy, decide_eq_true hk⟩)]
end Pd
theorem refcut26_5 (F : Heap) (l : List Pd.T) (u : Value) (sw : Int) (hn : l.length ≤ 8) (hu : Pd.Row F u l) (hfl : ∀ x ∈ l, Pd.fits x = true)
    (ih : ∀ G, ∀ x ∈ l, ∀ w, Pd.Row G w x.l → NCall Tryz.prog 25 [.agg (Pd.cs x w), .int .i64 sw] [hpB G] fun r m => Pd.Lays G (Pd.cut sw x) r m) :
    NCall Tryz.prog 25 [.agg [.int .i64 5, .int .i64 0, .int .i64 0, .hs u l.length], .int .i64 sw] [hpB F] fun r m => Pd.Out F 28 (Pd.fold 5 0 0 1 2 (l.map (Pd.cut sw))) r m := by
  have hok := hu.ok
  have hff : ∀ x ∈ l, Pd.fits (Pd.cut sw x) = true := fun x hx => Pd.cut_fits sw x (hfl x hx)
  refine ncall_of Tryz.func25 rfl (by decide) ?_
  (repeat' (first|(with_reducible first|(refine hK _ _ ?_;clear hK K)|(refine hB ?_;clear hA hB A B)|(refine hK _ ?_;clear hK K))|((with_reducible refine gO ?_);(first|((with_reducible first|refine z25 ?_|refine z26 ?_);intro K hK;(conv=>whnf))|(with_reducible refine z0 ?_)))|((first|((with_reducible refine gI ?_);(first|((with_reducible refine NIf.decN ?s ?_);case s=>omega)|((with_reducible refine NIf.no ?s ?_);case s=>rfl)))|((with_reducible refine gN ?_);(with_reducible refine NN.a5 ?_))|((with_reducible refine gH ?_);((with_reducible refine NH.mk ?s ?_);case s=>(and_intros<;>with_reducible rfl))))<;>(conv=>whnf))|((with_reducible refine gX ?_);(first|(with_reducible first|refine z3 ?_|refine z4 ?_|refine z5 ?_|refine z6 ?_)|((with_reducible refine z29 ?_);intro A B hA hB;(conv=>whnf))))|(with_reducible first|refine z1 ?_|refine z2 ?_)|((with_reducible refine gF ?_);((refine z33 rfl ?_);intro K hK;(conv=>whnf)))|((intro _;skip)<;>(conv=>whnf))))
  refine st_auto (α := Heap × Value × List (Pd.T × Value) × Nat) (fun (G, w, ps, i) => F.le G ∧ i ≤ l.length ∧ ps.length ≤ i ∧ (∀ x ∈ (l.take i).map (Pd.cut sw), ¬ x.k = 2) ∧ ps.map (·.1) = ((l.take i).map (Pd.cut sw)).filter (fun x => !decide (x.k = 1)) ∧ ∀ p ∈ ps, Pd.Row G p.2 p.1.l) (fun (G, w, ps, i) => [.keep, .keep, .keep, .keep, .keep, .keep, .keep, .keep, .set (.sl 3 w ps.length), .set (.int .i64 i), .drop, .keep, .keep, .keep, .keep, .keep, .keep, .keep, .keep, .keep, .keep, .keep, .keep, .keep, .keep, .keep, .keep, .keep, .keep, .keep, .keep, .keep, .keep, .keep, .keep, .keep, .keep, .keep, .keep, .keep, .keep, .keep, .keep, .keep, .keep, .keep, .keep, .keep, .keep, .keep, .keep, .keep, .keep, .keep, .keep, .keep, .drop, .drop, .drop, .drop, .drop, .drop, .drop, .drop, .drop, .drop, .drop, .drop, .drop, .drop, .drop, .drop, .drop, .drop, .drop, .drop, .drop, .drop, .drop, .drop, .drop, .drop, .drop, .keep, .keep, .keep, .keep, .keep, .keep, .keep, .keep, .keep, .keep, .keep, .keep, .keep, .keep, .keep])
    (fun (G, w, ps, i) => [.set (hpB G), .keep, .keep, .set ⟨addrOf w, Pd.psC ps, .row w 28 4 ps.length⟩]) (fun (G, w, ps, i) => l.length - i) (F, .slice none 0 0, [], 0) ⟨F.le_refl, Nat.zero_le _, Nat.le_refl _, fun x hx => by simp at hx, rfl, fun p hp => by simp at hp⟩ ?_ ((MemFits.nilRow _ 28 4).trans (MemFits.congr rfl)) ?_
  · repeat (first | exact FitsSl.nil | refine FitsSl.any ?_ | refine FitsSl.cons (Fit1.int (by first | rfl | omega)) ?_ | refine FitsSl.cons (Fit1.bool rfl) ?_ | refine FitsSl.cons (Fit1.str rfl) ?_ | refine FitsSl.cons (Fit1.same (by intro h; cases h) (by with_reducible rfl)) ?_ | refine FitsSl.cons Fit1.nil_sl ?_ | refine FitsSl.cons (Fit1.hs rfl) ?_ | refine FitsSl.cons (Fit1.hp rfl rfl) ?_ | refine FitsSl.cons (Fit1.sl rfl) ?_ | refine FitsSl.cons (Fit1.ptr rfl rfl) ?_ | refine FitsSl.cons Fit1.raw ?_)
  (intro ⟨G, w, ps, i⟩ ⟨hle, hil, hpi, hno, hmap, hall⟩; intro K hK; (conv=>whnf); refine hK _ _ ?_; clear hK K)
  dsimp only
  generalize hk : ps.length = t at *
  by_cases hlt : i < l.length
  · have hx : l[i]? = some l[i] := List.getElem?_eq_getElem hlt
    obtain ⟨A, cap, hA, c0, c1, c2, c3⟩ := (Pd.Row.mono hle hu).get hx
    have hmem := List.mem_of_getElem? hx
    have c := ih G _ hmem _ hA
    have hfy := hff _ hmem
    have hym : Pd.cut sw l[i] ∈ l.map (Pd.cut sw) := List.mem_map_of_mem hmem
    have hnx : (l.take (i + 1)).map (Pd.cut sw) = (l.take i).map (Pd.cut sw) ++ [Pd.cut sw l[i]] := by rw [List.take_add_one, hx, List.map_append]; rfl
    clear ih hff
    generalize Pd.cut sw l[i] = y at *
    generalize l[i] = x at *
    have hpl := Pd.psC_len ps
    have hpn := Pd.psC_next ps
    generalize hpc : Pd.psC ps = pc at *
    obtain ⟨xk, xf, xv, xl⟩ := x
    have h12 := fun h => Pd.fits_12 hfy h
    by_cases hone : y.k = 2
    · have hX := Pd.fold_one (k := 5) (f := 0) (v := 0) (out := 1) hym hone
      have hY := h12 (by omega)
      rw [hone] at hY
      rw [hX]
      subst hY
      simp only [Pd.Lays, Pd.cs, Pd.T.k, Pd.T.f, Pd.T.v, Pd.T.l] at c c0 c1 c2 c3 hA
      (repeat' (first|(with_reducible first|(refine hK _ _ ?_;clear hK K)|(refine hA ?_;clear hA hB A B)|(refine hK _ ?_;clear hK K))|((with_reducible refine gO ?_);(first|((with_reducible refine z25 ?_);intro K hK;(conv=>whnf))|(with_reducible refine z0 ?_)))|((first|((with_reducible refine gI ?_);(((with_reducible refine NIf.decY ?s ?_);case s=>first|with_reducible rfl|omega)))|((with_reducible refine gN ?_);(with_reducible first|refine NN.cast ?_|refine NN.a5 ?_|refine NN.keep ?_))|((with_reducible refine gH ?_);((with_reducible refine NH.mk ?s ?_);case s=>(and_intros<;>first|with_reducible rfl|((with_reducible refine gOnes ?_);rfl)|((with_reducible refine gLen ?_);rfl)|omega)))|((with_reducible refine gC ?_);((with_reducible refine NCall.isF 25 ?_);refine NCall.subw [0] _ _ (c) rfl (by decide) rfl ?_; rintro _ _ ⟨G', w', hle2, hrow, rfl, rfl⟩; refine ⟨Nat.le_of_ble_eq_true rfl, _, rfl, ?_⟩))|(with_reducible refine NLd.of (by with_reducible assumption) ?_))<;>(conv=>whnf))|((with_reducible refine gX ?_);(first|(with_reducible first|refine z3 ?_|refine z4 ?_|refine z5 ?_|refine z6 ?_|refine z8 ?_)|((with_reducible refine z29 ?_);intro A B hA hB;(conv=>whnf))))|(with_reducible first|refine z1 ?_|refine z2 ?_|refine z12 ?_|refine z13 ?_|refine z20 ?_)|((with_reducible refine gR ?_);((refine z31 rfl ?_);intro K hK;(conv=>whnf)))|((intro _;skip)<;>(conv=>whnf))))
      all_goals exact .inr ⟨G', w', hle.trans hle2, hrow, rfl, MemFits.pre 1 rfl⟩
    have hno2 : ∀ x ∈ (l.take (i + 1)).map (Pd.cut sw), ¬ x.k = 2 := fun x hx => by
      rw [hnx] at hx
      rcases List.mem_append.1 hx with hx | hx
      · exact hno x hx
      · rw [List.mem_singleton.1 hx]; exact hone
    by_cases hnone : y.k = 1
    · have hm2 : ps.map (·.1) = ((l.take (i + 1)).map (Pd.cut sw)).filter (fun x => !decide (x.k = 1)) := by
        rw [hnx, List.filter_append, ← hmap, List.filter_cons, if_neg (by simp [hnone])]; simp
      clear hnx hym h12 hfy
      obtain ⟨yk, yf, yv, yl⟩ := y
      have hnone : yk = 1 := hnone
      subst hnone
      clear hone
      simp only [Pd.Lays, Pd.cs, Pd.T.k, Pd.T.f, Pd.T.v, Pd.T.l] at c c0 c1 c2 c3 hA
      (repeat' (first|(with_reducible first|(refine hK _ _ ?_;clear hK K)|(refine hA ?_;clear hA hB A B)|(refine hB ?_;clear hA hB A B))|((with_reducible refine gO ?_);(first|((with_reducible refine z25 ?_);intro K hK;(conv=>whnf))|(with_reducible refine z0 ?_)))|((first|((with_reducible refine gV ?_);(((with_reducible refine NV.i64 ?s ?_);case s=>omega)))|((with_reducible refine gI ?_);(first|with_reducible refine NIf.not_ ?_|((with_reducible refine NIf.decY ?s ?_);case s=>first|with_reducible rfl|omega)|((with_reducible refine NIf.decN ?s ?_);case s=>omega)))|((with_reducible refine gN ?_);(with_reducible first|refine NN.cast ?_|refine NN.a5 ?_|refine NN.keep ?_))|((with_reducible refine gH ?_);((with_reducible refine NH.mk ?s ?_);case s=>(and_intros<;>first|with_reducible rfl|((with_reducible refine gOnes ?_);rfl)|((with_reducible refine gLen ?_);rfl)|omega)))|((with_reducible refine gC ?_);((with_reducible refine NCall.isF 25 ?_);refine NCall.subw [0] _ _ (c) rfl (by decide) rfl ?_; rintro _ _ ⟨G', w', hle2, hrow, rfl, rfl⟩; refine ⟨Nat.le_of_ble_eq_true rfl, _, rfl, ?_⟩))|(with_reducible refine NLd.of (by with_reducible assumption) ?_))<;>(conv=>whnf))|((with_reducible refine gX ?_);(first|(with_reducible first|refine z3 ?_|refine z4 ?_|refine z5 ?_|refine z6 ?_)|((with_reducible refine z29 ?_);intro A B hA hB;(conv=>whnf))))|(with_reducible first|refine z1 ?_|refine z2 ?_|refine z9 ?_)|((intro _;skip)<;>(conv=>whnf))))
      all_goals
        refine st_round (G', w, ps, i + 1) ⟨hle.trans hle2, hlt, (show ps.length ≤ i + 1 by omega), hno2, hm2, fun p hp => Pd.Row.mono hle2 (hall p hp)⟩ (show l.length - (i + 1) < l.length - i by omega) ?_ (MemFits.pre 4 (by simp only [hk, hpc]; rfl))
        simp only [hk]
        repeat (first | exact FitsSl.nil | refine FitsSl.any ?_ | refine FitsSl.cons (Fit1.int (by first | rfl | omega)) ?_ | refine FitsSl.cons (Fit1.bool rfl) ?_ | refine FitsSl.cons (Fit1.str rfl) ?_ | refine FitsSl.cons (Fit1.same (by intro h; cases h) (by with_reducible rfl)) ?_ | refine FitsSl.cons Fit1.nil_sl ?_ | refine FitsSl.cons (Fit1.hs rfl) ?_ | refine FitsSl.cons (Fit1.hp rfl rfl) ?_ | refine FitsSl.cons (Fit1.sl rfl) ?_ | refine FitsSl.cons (Fit1.ptr rfl rfl) ?_ | refine FitsSl.cons Fit1.raw ?_)
    · have hm2 : ∀ w' : Value, (ps ++ [(y, w')]).map (·.1) = ((l.take (i + 1)).map (Pd.cut sw)).filter (fun x => !decide (x.k = 1)) := fun w' => by
        rw [hnx, List.filter_append, ← hmap, List.filter_cons, if_pos (by simp [hnone])]; simp
      clear hnx hym h12 hfy
      obtain ⟨yk, yf, yv, yl⟩ := y
      have hone : ¬ yk = 2 := hone
      have hnone : ¬ yk = 1 := hnone
      simp only [Pd.Lays, Pd.cs, Pd.T.k, Pd.T.f, Pd.T.v, Pd.T.l] at c c0 c1 c2 c3 hA
      (repeat' (first|(with_reducible first|(refine hK _ _ ?_;clear hK K)|(refine hA ?_;clear hA hB A B)|(refine hB ?_;clear hA hB A B))|((with_reducible refine gO ?_);(first|((with_reducible refine z25 ?_);intro K hK;(conv=>whnf))|(with_reducible refine z0 ?_)))|((first|((with_reducible refine gV ?_);(((with_reducible refine NV.i64 ?s ?_);case s=>omega)))|((with_reducible refine gI ?_);(first|with_reducible refine NIf.not_ ?_|((with_reducible refine NIf.decY ?s ?_);case s=>omega)|((with_reducible refine NIf.decN ?s ?_);case s=>assumption)))|((with_reducible refine gN ?_);(with_reducible first|refine NN.cast ?_|refine NN.a5 ?_|refine NN.keep ?_))|((with_reducible refine gH ?_);((with_reducible refine NH.mk ?s ?_);case s=>(and_intros<;>first|with_reducible rfl|((with_reducible refine gOnes ?_);rfl)|((with_reducible refine gLen ?_);rfl)|omega)))|((with_reducible refine gC ?_);((with_reducible refine NCall.isF 25 ?_);refine NCall.subw [0] _ _ (c) rfl (by decide) rfl ?_; rintro _ _ ⟨G', w', hle2, hrow, rfl, rfl⟩; refine ⟨Nat.le_of_ble_eq_true rfl, _, rfl, ?_⟩))|(with_reducible refine NLd.of (by with_reducible assumption) ?_))<;>(conv=>whnf))|((with_reducible refine gX ?_);(first|(with_reducible first|refine z3 ?_|refine z4 ?_|refine z5 ?_|refine z6 ?_)|((with_reducible refine z29 ?_);intro A B hA hB;(conv=>whnf))))|(with_reducible first|refine z1 ?_|refine z2 ?_|refine z9 ?_)|((intro _;skip)<;>(conv=>whnf))))
      all_goals
        rename_i v9
        refine st_round (G', v9, ps ++ [(⟨yk, yf, yv, yl⟩, w')], i + 1) ⟨hle.trans hle2, hlt, by rw [List.length_append, hk]; show t + 1 ≤ i + 1; omega, hno2, hm2 w', fun x hx => ?_⟩ (show l.length - (i + 1) < l.length - i by omega) ?_ (MemFits.pre 4 ?_)
        · rcases List.mem_append.1 hx with hx | hx
          · exact Pd.Row.mono hle2 (hall x hx)
          · rw [List.mem_singleton.1 hx]; exact hrow
        · simp only [List.length_append, hk]
          repeat (first | exact FitsSl.nil | refine FitsSl.any ?_ | refine FitsSl.cons (Fit1.int (by first | rfl | omega)) ?_ | refine FitsSl.cons (Fit1.bool rfl) ?_ | refine FitsSl.cons (Fit1.str rfl) ?_ | refine FitsSl.cons (Fit1.same (by intro h; cases h) (by with_reducible rfl)) ?_ | refine FitsSl.cons Fit1.nil_sl ?_ | refine FitsSl.cons (Fit1.hs rfl) ?_ | refine FitsSl.cons (Fit1.hp rfl rfl) ?_ | refine FitsSl.cons (Fit1.sl rfl) ?_ | refine FitsSl.cons (Fit1.ptr rfl rfl) ?_ | refine FitsSl.cons Fit1.raw ?_)
        · simp only [autoM, List.take, List.length_append, hk, hpn]
          rw [show t + [((⟨yk, yf, yv, yl⟩ : Pd.T), w')].length = t + 1 from rfl]
          rfl
  · have hkl : i = l.length := by omega
    subst hkl
    rw [List.take_length] at hmap hno
    rw [Pd.fold_neg hno hmap]
    clear ih hff hno hmap hfl
    match ps, hk with
    | [], hk =>
      subst hk
      (repeat' (first|(with_reducible first|(refine hK _ _ ?_;clear hK K)|(refine hA ?_;clear hA hB A B)|(refine hB ?_;clear hA hB A B)|(refine hK _ ?_;clear hK K))|((with_reducible refine gO ?_);(first|((with_reducible refine z25 ?_);intro K hK;(conv=>whnf))|(with_reducible refine z0 ?_)))|((first|((with_reducible refine gI ?_);(first|((with_reducible refine NIf.decN ?s ?_);case s=>omega)|((with_reducible refine NIf.yes ?s ?_);case s=>rfl)))|((with_reducible refine gN ?_);(with_reducible refine NN.a5 ?_))|((with_reducible refine gH ?_);((with_reducible refine NH.mk ?s ?_);case s=>(and_intros<;>first|with_reducible rfl|((with_reducible refine gOnes ?_);rfl)|((with_reducible refine gLen ?_);rfl)|omega))))<;>(conv=>whnf))|((with_reducible refine gX ?_);(first|(with_reducible first|refine z3 ?_|refine z4 ?_|refine z7 ?_|refine z8 ?_)|((with_reducible refine z29 ?_);intro A B hA hB;(conv=>whnf))))|(with_reducible first|refine z1 ?_|refine z2 ?_|refine z10 ?_|refine z11 ?_|refine z12 ?_|refine z19 ?_)|((with_reducible refine gR ?_);((refine z31 rfl ?_);intro K hK;(conv=>whnf)))))
      all_goals exact .inr ⟨G, .slice none 0 0, hle, ⟨SlOk.nil, fun k x hx => by simp [Pd.T.l] at hx⟩, rfl, MemFits.pre 1 rfl⟩
    | [(⟨xk, xf, xv, xl⟩, u')], hk =>
      subst hk
      have hq : [((⟨xk, xf, xv, xl⟩ : Pd.T), u')][0]? = some (⟨xk, xf, xv, xl⟩, u') := rfl
      (repeat' (first|(with_reducible first|(refine hK _ _ ?_;clear hK K)|(refine hA ?_;clear hA hB A B)|(refine hB ?_;clear hA hB A B)|(refine hK _ ?_;clear hK K))|((with_reducible refine gO ?_);(first|((with_reducible refine z25 ?_);intro K hK;(conv=>whnf))|(with_reducible refine z0 ?_)))|((first|((with_reducible refine gI ?_);(first|((with_reducible refine NIf.decN ?s ?_);case s=>omega)|((with_reducible refine NIf.yes ?s ?_);case s=>rfl)|((with_reducible refine NIf.no ?s ?_);case s=>rfl)))|((with_reducible refine gN ?_);(with_reducible first|refine NN.lit ?_|refine NN.a5 ?_|refine NN.a6 ?_))|((with_reducible refine gH ?_);((with_reducible refine NH.mk ?s ?_);case s=>(and_intros<;>first|with_reducible rfl|((with_reducible refine gOnes ?_);rfl)|((with_reducible refine gLen ?_);rfl)|omega|(simp only [List.length_append, List.length_cons, List.length_nil]; omega)))))<;>(conv=>whnf))|((with_reducible refine gX ?_);(first|(with_reducible first|refine z3 ?_|refine z4 ?_|refine z6 ?_|refine z7 ?_|refine z8 ?_)|((with_reducible refine z29 ?_);intro A B hA hB;(conv=>whnf))))|(with_reducible first|refine z1 ?_|refine z2 ?_|refine z10 ?_|refine z11 ?_|refine z12 ?_|refine z19 ?_)|((with_reducible refine gR ?_);((refine z31 rfl ?_);intro K hK;(conv=>whnf)))))
      all_goals exact .inr ⟨G, u', hle, hall (⟨xk, xf, xv, xl⟩, u') (by simp), rfl, MemFits.pre 1 rfl⟩
    | x :: y :: r, hk =>
      have hlen : (x :: y :: r).length = r.length + 2 := rfl
      have hX : ∀ (g : List Pd.T → Pd.T), (match (x :: y :: r).map (·.1) with | [] => Pd.T.mk 1 0 0 [] | [x] => x | x :: y :: r => Pd.T.mk 5 0 0 (x :: y :: r)) = Pd.T.mk 5 0 0 ((x :: y :: r).map (·.1)) := fun _ => rfl
      rw [show (match (x :: y :: r).map (·.1) with | [] => Pd.T.mk 1 0 0 [] | [x] => x | x :: y :: r => Pd.T.mk 5 0 0 (x :: y :: r)) = Pd.T.mk 5 0 0 ((x :: y :: r).map (·.1)) from rfl]
      generalize hks : x :: y :: r = ks at *
      (repeat' (first|(with_reducible first|(refine hK _ _ ?_;clear hK K)|(refine hB ?_;clear hA hB A B)|(refine hK _ ?_;clear hK K))|((with_reducible refine gO ?_);(first|((with_reducible refine z25 ?_);intro K hK;(conv=>whnf))|(with_reducible refine z0 ?_)))|((first|((with_reducible refine gI ?_);(((with_reducible refine NIf.decN ?s ?_);case s=>omega)))|((with_reducible refine gN ?_);(with_reducible refine NN.a5 ?_))|((with_reducible refine gH ?_);((with_reducible refine NH.mk ?s ?_);case s=>(and_intros<;>first|with_reducible rfl|((with_reducible refine gOnes ?_);rfl)|((with_reducible refine gLen ?_);rfl)|omega))))<;>(conv=>whnf))|((with_reducible refine gX ?_);(first|(with_reducible first|refine z3 ?_|refine z4 ?_|refine z6 ?_|refine z7 ?_|refine z8 ?_)|((with_reducible refine z29 ?_);intro A B hA hB;(conv=>whnf))))|(with_reducible first|refine z1 ?_|refine z2 ?_|refine z10 ?_|refine z11 ?_|refine z19 ?_)|((with_reducible refine gR ?_);((refine z31 rfl ?_);intro K hK;(conv=>whnf)))))
      all_goals exact .inl ⟨G, w, ks, hle, rfl, hall, by simp only [Pd.cs, Pd.T.k, Pd.T.f, Pd.T.v, Pd.T.l, List.length_map, hk]; rfl, by rw [hk]; exact MemFits.pick [0, 3] (by decide) rfl⟩
theorem refcut26_6 (F : Heap) (l : List Pd.T) (u : Value) (sw : Int) (hn : l.length ≤ 8) (hu : Pd.Row F u l) (hfl : ∀ x ∈ l, Pd.fits x = true)
    (ih : ∀ G, ∀ x ∈ l, ∀ w, Pd.Row G w x.l → NCall Tryz.prog 25 [.agg (Pd.cs x w), .int .i64 sw] [hpB G] fun r m => Pd.Lays G (Pd.cut sw x) r m) :
    NCall Tryz.prog 25 [.agg [.int .i64 6, .int .i64 0, .int .i64 0, .hs u l.length], .int .i64 sw] [hpB F] fun r m => Pd.Out F 28 (Pd.fold 6 0 0 2 1 (l.map (Pd.cut sw))) r m := by
  have hok := hu.ok
  have hff : ∀ x ∈ l, Pd.fits (Pd.cut sw x) = true := fun x hx => Pd.cut_fits sw x (hfl x hx)
  refine ncall_of Tryz.func25 rfl (by decide) ?_
  (repeat' (first|(with_reducible first|(refine hK _ _ ?_;clear hK K)|(refine hA ?_;clear hA hB A B)|(refine hB ?_;clear hA hB A B)|(refine hK _ ?_;clear hK K))|((with_reducible refine gO ?_);(first|((with_reducible first|refine z25 ?_|refine z26 ?_);intro K hK;(conv=>whnf))|(with_reducible refine z0 ?_)))|((first|((with_reducible refine gI ?_);(first|((with_reducible refine NIf.decY ?s ?_);case s=>with_reducible rfl)|((with_reducible refine NIf.decN ?s ?_);case s=>omega)|((with_reducible refine NIf.no ?s ?_);case s=>rfl)))|((with_reducible refine gN ?_);(with_reducible refine NN.a5 ?_))|((with_reducible refine gH ?_);((with_reducible refine NH.mk ?s ?_);case s=>(and_intros<;>with_reducible rfl))))<;>(conv=>whnf))|((with_reducible refine gX ?_);(first|(with_reducible first|refine z3 ?_|refine z4 ?_|refine z5 ?_|refine z6 ?_)|((with_reducible refine z29 ?_);intro A B hA hB;(conv=>whnf))))|(with_reducible first|refine z1 ?_|refine z2 ?_)|((with_reducible refine gF ?_);((refine z33 rfl ?_);intro K hK;(conv=>whnf)))|((intro _;skip)<;>(conv=>whnf))))
  refine st_auto (α := Heap × Value × List (Pd.T × Value) × Nat) (fun (G, w, ps, i) => F.le G ∧ i ≤ l.length ∧ ps.length ≤ i ∧ (∀ x ∈ (l.take i).map (Pd.cut sw), ¬ x.k = 1) ∧ ps.map (·.1) = ((l.take i).map (Pd.cut sw)).filter (fun x => !decide (x.k = 2)) ∧ ∀ p ∈ ps, Pd.Row G p.2 p.1.l) (fun (G, w, ps, i) => [.keep, .keep, .keep, .keep, .keep, .keep, .keep, .keep, .set (.sl 3 w ps.length), .set (.int .i64 i), .drop, .keep, .keep, .keep, .keep, .keep, .keep, .keep, .keep, .keep, .keep, .keep, .keep, .keep, .keep, .keep, .keep, .keep, .keep, .keep, .keep, .keep, .keep, .keep, .keep, .keep, .keep, .keep, .keep, .keep, .keep, .keep, .keep, .keep, .keep, .keep, .keep, .keep, .keep, .keep, .keep, .keep, .keep, .keep, .keep, .keep, .drop, .drop, .drop, .drop, .drop, .drop, .drop, .drop, .drop, .drop, .drop, .drop, .drop, .drop, .drop, .drop, .drop, .drop, .drop, .drop, .drop, .drop, .drop, .drop, .drop, .drop, .drop, .keep, .keep, .keep, .keep, .keep, .keep, .keep, .keep, .keep, .keep, .keep, .keep, .keep, .keep, .keep])
    (fun (G, w, ps, i) => [.set (hpB G), .keep, .keep, .set ⟨addrOf w, Pd.psC ps, .row w 28 4 ps.length⟩]) (fun (G, w, ps, i) => l.length - i) (F, .slice none 0 0, [], 0) ⟨F.le_refl, Nat.zero_le _, Nat.le_refl _, fun x hx => by simp at hx, rfl, fun p hp => by simp at hp⟩ ?_ ((MemFits.nilRow _ 28 4).trans (MemFits.congr rfl)) ?_
  · repeat (first | exact FitsSl.nil | refine FitsSl.any ?_ | refine FitsSl.cons (Fit1.int (by first | rfl | omega)) ?_ | refine FitsSl.cons (Fit1.bool rfl) ?_ | refine FitsSl.cons (Fit1.str rfl) ?_ | refine FitsSl.cons (Fit1.same (by intro h; cases h) (by with_reducible rfl)) ?_ | refine FitsSl.cons Fit1.nil_sl ?_ | refine FitsSl.cons (Fit1.hs rfl) ?_ | refine FitsSl.cons (Fit1.hp rfl rfl) ?_ | refine FitsSl.cons (Fit1.sl rfl) ?_ | refine FitsSl.cons (Fit1.ptr rfl rfl) ?_ | refine FitsSl.cons Fit1.raw ?_)
  (intro ⟨G, w, ps, i⟩ ⟨hle, hil, hpi, hno, hmap, hall⟩; intro K hK; (conv=>whnf); refine hK _ _ ?_; clear hK K)
  dsimp only
  generalize hk : ps.length = t at *
  by_cases hlt : i < l.length
  · have hx : l[i]? = some l[i] := List.getElem?_eq_getElem hlt
    obtain ⟨A, cap, hA, c0, c1, c2, c3⟩ := (Pd.Row.mono hle hu).get hx
    have hmem := List.mem_of_getElem? hx
    have c := ih G _ hmem _ hA
    have hfy := hff _ hmem
    have hym : Pd.cut sw l[i] ∈ l.map (Pd.cut sw) := List.mem_map_of_mem hmem
    have hnx : (l.take (i + 1)).map (Pd.cut sw) = (l.take i).map (Pd.cut sw) ++ [Pd.cut sw l[i]] := by rw [List.take_add_one, hx, List.map_append]; rfl
    clear ih hff
    generalize Pd.cut sw l[i] = y at *
    generalize l[i] = x at *
    have hpl := Pd.psC_len ps
    have hpn := Pd.psC_next ps
    generalize hpc : Pd.psC ps = pc at *
    obtain ⟨xk, xf, xv, xl⟩ := x
    have h12 := fun h => Pd.fits_12 hfy h
    by_cases hone : y.k = 1
    · have hX := Pd.fold_one (k := 6) (f := 0) (v := 0) (out := 2) hym hone
      have hY := h12 (by omega)
      rw [hone] at hY
      rw [hX]
      subst hY
      simp only [Pd.Lays, Pd.cs, Pd.T.k, Pd.T.f, Pd.T.v, Pd.T.l] at c c0 c1 c2 c3 hA
      (repeat' (first|(with_reducible first|(refine hK _ _ ?_;clear hK K)|(refine hA ?_;clear hA hB A B)|(refine hK _ ?_;clear hK K))|((with_reducible refine gO ?_);(first|((with_reducible refine z25 ?_);intro K hK;(conv=>whnf))|(with_reducible refine z0 ?_)))|((first|((with_reducible refine gI ?_);(((with_reducible refine NIf.decY ?s ?_);case s=>first|with_reducible rfl|omega)))|((with_reducible refine gN ?_);(with_reducible first|refine NN.cast ?_|refine NN.a5 ?_|refine NN.keep ?_))|((with_reducible refine gH ?_);((with_reducible refine NH.mk ?s ?_);case s=>(and_intros<;>first|with_reducible rfl|((with_reducible refine gOnes ?_);rfl)|((with_reducible refine gLen ?_);rfl)|omega)))|((with_reducible refine gC ?_);((with_reducible refine NCall.isF 25 ?_);refine NCall.subw [0] _ _ (c) rfl (by decide) rfl ?_; rintro _ _ ⟨G', w', hle2, hrow, rfl, rfl⟩; refine ⟨Nat.le_of_ble_eq_true rfl, _, rfl, ?_⟩))|(with_reducible refine NLd.of (by with_reducible assumption) ?_))<;>(conv=>whnf))|((with_reducible refine gX ?_);(first|(with_reducible first|refine z3 ?_|refine z4 ?_|refine z5 ?_|refine z6 ?_|refine z8 ?_)|((with_reducible refine z29 ?_);intro A B hA hB;(conv=>whnf))))|(with_reducible first|refine z1 ?_|refine z2 ?_|refine z12 ?_|refine z13 ?_|refine z20 ?_)|((with_reducible refine gR ?_);((refine z31 rfl ?_);intro K hK;(conv=>whnf)))|((intro _;skip)<;>(conv=>whnf))))
      all_goals exact .inr ⟨G', w', hle.trans hle2, hrow, rfl, MemFits.pre 1 rfl⟩
    have hno2 : ∀ x ∈ (l.take (i + 1)).map (Pd.cut sw), ¬ x.k = 1 := fun x hx => by
      rw [hnx] at hx
      rcases List.mem_append.1 hx with hx | hx
      · exact hno x hx
      · rw [List.mem_singleton.1 hx]; exact hone
    by_cases hnone : y.k = 2
    · have hm2 : ps.map (·.1) = ((l.take (i + 1)).map (Pd.cut sw)).filter (fun x => !decide (x.k = 2)) := by
        rw [hnx, List.filter_append, ← hmap, List.filter_cons, if_neg (by simp [hnone])]; simp
      clear hnx hym h12 hfy
      obtain ⟨yk, yf, yv, yl⟩ := y
      have hnone : yk = 2 := hnone
      subst hnone
      clear hone
      simp only [Pd.Lays, Pd.cs, Pd.T.k, Pd.T.f, Pd.T.v, Pd.T.l] at c c0 c1 c2 c3 hA
      (repeat' (first|(with_reducible first|(refine hK _ _ ?_;clear hK K)|(refine hA ?_;clear hA hB A B)|(refine hB ?_;clear hA hB A B))|((with_reducible refine gO ?_);(first|((with_reducible refine z25 ?_);intro K hK;(conv=>whnf))|(with_reducible refine z0 ?_)))|((first|((with_reducible refine gV ?_);(((with_reducible refine NV.i64 ?s ?_);case s=>omega)))|((with_reducible refine gI ?_);(first|with_reducible refine NIf.not_ ?_|((with_reducible refine NIf.decY ?s ?_);case s=>first|with_reducible rfl|omega)|((with_reducible refine NIf.decN ?s ?_);case s=>omega)))|((with_reducible refine gN ?_);(with_reducible first|refine NN.cast ?_|refine NN.a5 ?_|refine NN.keep ?_))|((with_reducible refine gH ?_);((with_reducible refine NH.mk ?s ?_);case s=>(and_intros<;>first|with_reducible rfl|((with_reducible refine gOnes ?_);rfl)|((with_reducible refine gLen ?_);rfl)|omega)))|((with_reducible refine gC ?_);((with_reducible refine NCall.isF 25 ?_);refine NCall.subw [0] _ _ (c) rfl (by decide) rfl ?_; rintro _ _ ⟨G', w', hle2, hrow, rfl, rfl⟩; refine ⟨Nat.le_of_ble_eq_true rfl, _, rfl, ?_⟩))|(with_reducible refine NLd.of (by with_reducible assumption) ?_))<;>(conv=>whnf))|((with_reducible refine gX ?_);(first|(with_reducible first|refine z3 ?_|refine z4 ?_|refine z5 ?_|refine z6 ?_)|((with_reducible refine z29 ?_);intro A B hA hB;(conv=>whnf))))|(with_reducible first|refine z1 ?_|refine z2 ?_|refine z9 ?_)|((intro _;skip)<;>(conv=>whnf))))
      all_goals
        refine st_round (G', w, ps, i + 1) ⟨hle.trans hle2, hlt, (show ps.length ≤ i + 1 by omega), hno2, hm2, fun p hp => Pd.Row.mono hle2 (hall p hp)⟩ (show l.length - (i + 1) < l.length - i by omega) ?_ (MemFits.pre 4 (by simp only [hk, hpc]; rfl))
        simp only [hk]
        repeat (first | exact FitsSl.nil | refine FitsSl.any ?_ | refine FitsSl.cons (Fit1.int (by first | rfl | omega)) ?_ | refine FitsSl.cons (Fit1.bool rfl) ?_ | refine FitsSl.cons (Fit1.str rfl) ?_ | refine FitsSl.cons (Fit1.same (by intro h; cases h) (by with_reducible rfl)) ?_ | refine FitsSl.cons Fit1.nil_sl ?_ | refine FitsSl.cons (Fit1.hs rfl) ?_ | refine FitsSl.cons (Fit1.hp rfl rfl) ?_ | refine FitsSl.cons (Fit1.sl rfl) ?_ | refine FitsSl.cons (Fit1.ptr rfl rfl) ?_ | refine FitsSl.cons Fit1.raw ?_)
    · have hm2 : ∀ w' : Value, (ps ++ [(y, w')]).map (·.1) = ((l.take (i + 1)).map (Pd.cut sw)).filter (fun x => !decide (x.k = 2)) := fun w' => by
        rw [hnx, List.filter_append, ← hmap, List.filter_cons, if_pos (by simp [hnone])]; simp
      clear hnx hym h12 hfy
      obtain ⟨yk, yf, yv, yl⟩ := y
      have hone : ¬ yk = 1 := hone
      have hnone : ¬ yk = 2 := hnone
      simp only [Pd.Lays, Pd.cs, Pd.T.k, Pd.T.f, Pd.T.v, Pd.T.l] at c c0 c1 c2 c3 hA
      (repeat' (first|(with_reducible first|(refine hK _ _ ?_;clear hK K)|(refine hA ?_;clear hA hB A B)|(refine hB ?_;clear hA hB A B))|((with_reducible refine gO ?_);(first|((with_reducible refine z25 ?_);intro K hK;(conv=>whnf))|(with_reducible refine z0 ?_)))|((first|((with_reducible refine gV ?_);(((with_reducible refine NV.i64 ?s ?_);case s=>omega)))|((with_reducible refine gI ?_);(first|with_reducible refine NIf.not_ ?_|((with_reducible refine NIf.decY ?s ?_);case s=>omega)|((with_reducible refine NIf.decN ?s ?_);case s=>assumption)))|((with_reducible refine gN ?_);(with_reducible first|refine NN.cast ?_|refine NN.a5 ?_|refine NN.keep ?_))|((with_reducible refine gH ?_);((with_reducible refine NH.mk ?s ?_);case s=>(and_intros<;>first|with_reducible rfl|((with_reducible refine gOnes ?_);rfl)|((with_reducible refine gLen ?_);rfl)|omega)))|((with_reducible refine gC ?_);((with_reducible refine NCall.isF 25 ?_);refine NCall.subw [0] _ _ (c) rfl (by decide) rfl ?_; rintro _ _ ⟨G', w', hle2, hrow, rfl, rfl⟩; refine ⟨Nat.le_of_ble_eq_true rfl, _, rfl, ?_⟩))|(with_reducible refine NLd.of (by with_reducible assumption) ?_))<;>(conv=>whnf))|((with_reducible refine gX ?_);(first|(with_reducible first|refine z3 ?_|refine z4 ?_|refine z5 ?_|refine z6 ?_)|((with_reducible refine z29 ?_);intro A B hA hB;(conv=>whnf))))|(with_reducible first|refine z1 ?_|refine z2 ?_|refine z9 ?_)|((intro _;skip)<;>(conv=>whnf))))
      all_goals
        rename_i v9
        refine st_round (G', v9, ps ++ [(⟨yk, yf, yv, yl⟩, w')], i + 1) ⟨hle.trans hle2, hlt, by rw [List.length_append, hk]; show t + 1 ≤ i + 1; omega, hno2, hm2 w', fun x hx => ?_⟩ (show l.length - (i + 1) < l.length - i by omega) ?_ (MemFits.pre 4 ?_)
        · rcases List.mem_append.1 hx with hx | hx
          · exact Pd.Row.mono hle2 (hall x hx)
          · rw [List.mem_singleton.1 hx]; exact hrow
        · simp only [List.length_append, hk]
          repeat (first | exact FitsSl.nil | refine FitsSl.any ?_ | refine FitsSl.cons (Fit1.int (by first | rfl | omega)) ?_ | refine FitsSl.cons (Fit1.bool rfl) ?_ | refine FitsSl.cons (Fit1.str rfl) ?_ | refine FitsSl.cons (Fit1.same (by intro h; cases h) (by with_reducible rfl)) ?_ | refine FitsSl.cons Fit1.nil_sl ?_ | refine FitsSl.cons (Fit1.hs rfl) ?_ | refine FitsSl.cons (Fit1.hp rfl rfl) ?_ | refine FitsSl.cons (Fit1.sl rfl) ?_ | refine FitsSl.cons (Fit1.ptr rfl rfl) ?_ | refine FitsSl.cons Fit1.raw ?_)
        · simp only [autoM, List.take, List.length_append, hk, hpn]
          rw [show t + [((⟨yk, yf, yv, yl⟩ : Pd.T), w')].length = t + 1 from rfl]
          rfl
  · have hkl : i = l.length := by omega
    subst hkl
    rw [List.take_length] at hmap hno
    rw [Pd.fold_neg hno hmap]
    clear ih hff hno hmap hfl
    match ps, hk with
    | [], hk =>
      subst hk
      (repeat' (first|(with_reducible first|(refine hK _ _ ?_;clear hK K)|(refine hA ?_;clear hA hB A B)|(refine hB ?_;clear hA hB A B)|(refine hK _ ?_;clear hK K))|((with_reducible refine gO ?_);(first|((with_reducible refine z25 ?_);intro K hK;(conv=>whnf))|(with_reducible refine z0 ?_)))|((first|((with_reducible refine gI ?_);(first|((with_reducible refine NIf.decN ?s ?_);case s=>omega)|((with_reducible refine NIf.yes ?s ?_);case s=>rfl)))|((with_reducible refine gN ?_);(with_reducible refine NN.a5 ?_))|((with_reducible refine gH ?_);((with_reducible refine NH.mk ?s ?_);case s=>(and_intros<;>first|with_reducible rfl|((with_reducible refine gOnes ?_);rfl)|((with_reducible refine gLen ?_);rfl)|omega))))<;>(conv=>whnf))|((with_reducible refine gX ?_);(first|(with_reducible first|refine z3 ?_|refine z4 ?_|refine z7 ?_|refine z8 ?_)|((with_reducible refine z29 ?_);intro A B hA hB;(conv=>whnf))))|(with_reducible first|refine z1 ?_|refine z2 ?_|refine z10 ?_|refine z11 ?_|refine z12 ?_|refine z19 ?_)|((with_reducible refine gR ?_);((refine z31 rfl ?_);intro K hK;(conv=>whnf)))))
      all_goals exact .inr ⟨G, .slice none 0 0, hle, ⟨SlOk.nil, fun k x hx => by simp [Pd.T.l] at hx⟩, rfl, MemFits.pre 1 rfl⟩
    | [(⟨xk, xf, xv, xl⟩, u')], hk =>
      subst hk
      have hq : [((⟨xk, xf, xv, xl⟩ : Pd.T), u')][0]? = some (⟨xk, xf, xv, xl⟩, u') := rfl
      (repeat' (first|(with_reducible first|(refine hK _ _ ?_;clear hK K)|(refine hA ?_;clear hA hB A B)|(refine hB ?_;clear hA hB A B)|(refine hK _ ?_;clear hK K))|((with_reducible refine gO ?_);(first|((with_reducible refine z25 ?_);intro K hK;(conv=>whnf))|(with_reducible refine z0 ?_)))|((first|((with_reducible refine gI ?_);(first|((with_reducible refine NIf.decN ?s ?_);case s=>omega)|((with_reducible refine NIf.yes ?s ?_);case s=>rfl)|((with_reducible refine NIf.no ?s ?_);case s=>rfl)))|((with_reducible refine gN ?_);(with_reducible first|refine NN.lit ?_|refine NN.a5 ?_|refine NN.a6 ?_))|((with_reducible refine gH ?_);((with_reducible refine NH.mk ?s ?_);case s=>(and_intros<;>first|with_reducible rfl|((with_reducible refine gOnes ?_);rfl)|((with_reducible refine gLen ?_);rfl)|omega|(simp only [List.length_append, List.length_cons, List.length_nil]; omega)))))<;>(conv=>whnf))|((with_reducible refine gX ?_);(first|(with_reducible first|refine z3 ?_|refine z4 ?_|refine z6 ?_|refine z7 ?_|refine z8 ?_)|((with_reducible refine z29 ?_);intro A B hA hB;(conv=>whnf))))|(with_reducible first|refine z1 ?_|refine z2 ?_|refine z10 ?_|refine z11 ?_|refine z12 ?_|refine z19 ?_)|((with_reducible refine gR ?_);((refine z31 rfl ?_);intro K hK;(conv=>whnf)))))
      all_goals exact .inr ⟨G, u', hle, hall (⟨xk, xf, xv, xl⟩, u') (by simp), rfl, MemFits.pre 1 rfl⟩
    | x :: y :: r, hk =>
      have hlen : (x :: y :: r).length = r.length + 2 := rfl
      have hX : ∀ (g : List Pd.T → Pd.T), (match (x :: y :: r).map (·.1) with | [] => Pd.T.mk 2 0 0 [] | [x] => x | x :: y :: r => Pd.T.mk 6 0 0 (x :: y :: r)) = Pd.T.mk 6 0 0 ((x :: y :: r).map (·.1)) := fun _ => rfl
      rw [show (match (x :: y :: r).map (·.1) with | [] => Pd.T.mk 2 0 0 [] | [x] => x | x :: y :: r => Pd.T.mk 6 0 0 (x :: y :: r)) = Pd.T.mk 6 0 0 ((x :: y :: r).map (·.1)) from rfl]
      generalize hks : x :: y :: r = ks at *
      (repeat' (first|(with_reducible first|(refine hK _ _ ?_;clear hK K)|(refine hB ?_;clear hA hB A B)|(refine hK _ ?_;clear hK K))|((with_reducible refine gO ?_);(first|((with_reducible refine z25 ?_);intro K hK;(conv=>whnf))|(with_reducible refine z0 ?_)))|((first|((with_reducible refine gI ?_);(((with_reducible refine NIf.decN ?s ?_);case s=>omega)))|((with_reducible refine gN ?_);(with_reducible refine NN.a5 ?_))|((with_reducible refine gH ?_);((with_reducible refine NH.mk ?s ?_);case s=>(and_intros<;>first|with_reducible rfl|((with_reducible refine gOnes ?_);rfl)|((with_reducible refine gLen ?_);rfl)|omega))))<;>(conv=>whnf))|((with_reducible refine gX ?_);(first|(with_reducible first|refine z3 ?_|refine z4 ?_|refine z6 ?_|refine z7 ?_|refine z8 ?_)|((with_reducible refine z29 ?_);intro A B hA hB;(conv=>whnf))))|(with_reducible first|refine z1 ?_|refine z2 ?_|refine z10 ?_|refine z11 ?_|refine z19 ?_)|((with_reducible refine gR ?_);((refine z31 rfl ?_);intro K hK;(conv=>whnf)))))
      all_goals exact .inl ⟨G, w, ks, hle, rfl, hall, by simp only [Pd.cs, Pd.T.k, Pd.T.f, Pd.T.v, Pd.T.l, List.length_map, hk]; rfl, by rw [hk]; exact MemFits.pick [0, 3] (by decide) rfl⟩
theorem refcut26_c : ∀ (n : Nat) (F : Heap) (p : Pd.T) (u : Value) (sw : Int), Pd.size p ≤ n → Pd.size p ≤ 1000000000000 → Pd.fits p = true → Pd.Row F u p.l →
    NCall Tryz.prog 25 [.agg (Pd.cs p u), .int .i64 sw] [hpB F] fun r m => Pd.Lays F (Pd.cut sw p) r m
  | 0, F, p, u, sw, hn, _, _, _ => absurd (Pd.size_pos p) (by omega)
  | n + 1, F, ⟨k, f, v, l⟩, u, sw, hn, hs, hf, hu => by
    refine Pd.out_know (t := 28) ?_
    have hu : Pd.Row F u l := hu
    have hok := hu.ok
    obtain ⟨hsh, hfl⟩ := Pd.fits_mk hf
    have ih : ∀ G, ∀ x ∈ l, ∀ w, Pd.Row G w x.l → NCall Tryz.prog 25 [.agg (Pd.cs x w), .int .i64 sw] [hpB G] fun r m => Pd.Lays G (Pd.cut sw x) r m := fun G x hx w hw => refcut26_c n G x w sw (by have := Pd.size_lt (k := k) (f := f) (v := v) hx; omega) (by have := Pd.size_lt (k := k) (f := f) (v := v) hx; omega) (hfl x hx) hw
    have hff : ∀ x ∈ l, Pd.fits (Pd.cut sw x) = true := fun x hx => Pd.cut_fits sw x (hfl x hx)
    rw [pd_cs]
    by_cases h5 : k = 5
    · subst h5
      obtain ⟨rfl, rfl, hl2, hl8⟩ : f = 0 ∧ v = 0 ∧ 2 ≤ l.length ∧ l.length ≤ 8 := by omega
      rw [Pd.cut_5]
      exact refcut26_5 F l u sw hl8 hu hfl ih
    by_cases h6 : k = 6
    · subst h6
      obtain ⟨rfl, rfl, hl2, hl8⟩ : f = 0 ∧ v = 0 ∧ 2 ≤ l.length ∧ l.length ≤ 8 := by omega
      rw [Pd.cut_6]
      exact refcut26_6 F l u sw hl8 hu hfl ih
    by_cases h4 : k = 4
    · subst h4
      obtain ⟨rfl, rfl, hl1⟩ : f = 0 ∧ v = 0 ∧ l.length = 1 := by omega
      match l, hl1 with
      | [q], _ =>
        rw [Pd.cut_4]
        obtain ⟨A, cap, hA, c0, c1, c2, c3⟩ := hu.get (i := 0) (x := q) rfl
        have c := ih F q (by simp) _ hA
        have hfy := hff q (by simp)
        clear ih hff hsh
        generalize Pd.cut sw q = y at *
        have hyk := Pd.fits_k hfy
        obtain ⟨yk, yf, yv, yl⟩ := y
        obtain ⟨xk, xf, xv, xl⟩ := q
        simp only [Pd.Lays, Pd.cs, Pd.T.k, Pd.T.f, Pd.T.v, Pd.T.l] at c c0 c1 c2 c3 hA hyk
        refine ncall_of Tryz.func25 rfl (by decide) ?_
        by_cases h1 : yk = 1
        · subst h1
          rw [if_pos (show (Pd.T.mk 1 yf yv yl).k ≤ 2 from (by decide : (1 : Int) ≤ 2)), if_neg (show ¬ (Pd.T.mk 1 yf yv yl).k = 2 from (by decide : ¬ (1 : Int) = 2))]
          (repeat' (first|(with_reducible first|(refine hK _ _ ?_;clear hK K)|(refine hA ?_;clear hA hB A B)|(refine hB ?_;clear hA hB A B)|(refine hK _ ?_;clear hK K))|((with_reducible refine gO ?_);(first|((with_reducible first|refine z25 ?_|refine z26 ?_);intro K hK;(conv=>whnf))|(with_reducible refine z0 ?_)))|((first|((with_reducible refine gV ?_);(((with_reducible refine NV.i64 ?s ?_);case s=>omega)))|((with_reducible refine gI ?_);(first|((with_reducible refine NIf.decY ?s ?_);case s=>with_reducible rfl)|((with_reducible refine NIf.decN ?s ?_);case s=>omega)|((with_reducible refine NIf.yes ?s ?_);case s=>rfl)|((with_reducible refine NIf.no ?s ?_);case s=>rfl)))|((with_reducible refine gN ?_);(with_reducible first|refine NN.lit ?_|refine NN.a5 ?_|refine NN.a6 ?_))|((with_reducible refine gH ?_);((with_reducible refine NH.mk ?s ?_);case s=>(and_intros<;>first|with_reducible rfl|((with_reducible refine gOnes ?_);rfl)|((with_reducible refine gLen ?_);rfl)|omega)))|((with_reducible refine gC ?_);((with_reducible refine NCall.isF 25 ?_);refine NCall.subw [0] _ _ (c) rfl (by decide) rfl ?_; rintro _ _ ⟨G', w', hle2, hrow, rfl, rfl⟩; refine ⟨Nat.le_of_ble_eq_true rfl, _, rfl, ?_⟩))|(with_reducible refine NLd.of (by with_reducible assumption) ?_))<;>(conv=>whnf))|((with_reducible refine gX ?_);(first|(with_reducible first|refine z3 ?_|refine z4 ?_|refine z6 ?_|refine z8 ?_)|((with_reducible refine z29 ?_);intro A B hA hB;(conv=>whnf))))|(with_reducible first|refine z1 ?_|refine z2 ?_|refine z12 ?_)|((with_reducible refine gR ?_);((refine z31 rfl ?_);intro K hK;(conv=>whnf)))|((with_reducible refine gF ?_);((refine z33 rfl ?_);intro K hK;(conv=>whnf)))|((intro _;skip)<;>(conv=>whnf))))
          all_goals exact .inr ⟨G', .slice none 0 0, hle2, ⟨SlOk.nil, fun k x hx => by simp [Pd.T.l] at hx⟩, rfl, MemFits.pre 1 rfl⟩
        by_cases h2 : yk = 2
        · subst h2
          rw [if_pos (show (Pd.T.mk 2 yf yv yl).k ≤ 2 from (by decide : (2 : Int) ≤ 2)), if_pos (show (Pd.T.mk 2 yf yv yl).k = 2 from rfl)]
          (repeat' (first|(with_reducible first|(refine hK _ _ ?_;clear hK K)|(refine hA ?_;clear hA hB A B)|(refine hB ?_;clear hA hB A B)|(refine hK _ ?_;clear hK K))|((with_reducible refine gO ?_);(first|((with_reducible first|refine z25 ?_|refine z26 ?_);intro K hK;(conv=>whnf))|(with_reducible refine z0 ?_)))|((first|((with_reducible refine gV ?_);(((with_reducible refine NV.i64 ?s ?_);case s=>omega)))|((with_reducible refine gI ?_);(first|((with_reducible refine NIf.decY ?s ?_);case s=>with_reducible rfl)|((with_reducible refine NIf.decN ?s ?_);case s=>first|assumption|omega)|((with_reducible refine NIf.no ?s ?_);case s=>rfl)))|((with_reducible refine gN ?_);(with_reducible first|refine NN.lit ?_|refine NN.a5 ?_|refine NN.a6 ?_))|((with_reducible refine gH ?_);((with_reducible refine NH.mk ?s ?_);case s=>(and_intros<;>first|with_reducible rfl|((with_reducible refine gOnes ?_);rfl)|((with_reducible refine gLen ?_);rfl)|omega)))|((with_reducible refine gC ?_);((with_reducible refine NCall.isF 25 ?_);refine NCall.subw [0] _ _ (c) rfl (by decide) rfl ?_; rintro _ _ ⟨G', w', hle2, hrow, rfl, rfl⟩; refine ⟨Nat.le_of_ble_eq_true rfl, _, rfl, ?_⟩))|(with_reducible refine NLd.of (by with_reducible assumption) ?_))<;>(conv=>whnf))|((with_reducible refine gX ?_);(first|(with_reducible first|refine z3 ?_|refine z4 ?_|refine z6 ?_|refine z8 ?_)|((with_reducible refine z29 ?_);intro A B hA hB;(conv=>whnf))))|(with_reducible first|refine z1 ?_|refine z2 ?_|refine z12 ?_)|((with_reducible refine gR ?_);((refine z31 rfl ?_);intro K hK;(conv=>whnf)))|((with_reducible refine gF ?_);((refine z33 rfl ?_);intro K hK;(conv=>whnf)))|((intro _;skip)<;>(conv=>whnf))))
          all_goals exact .inr ⟨G', .slice none 0 0, hle2, ⟨SlOk.nil, fun k x hx => by simp [Pd.T.l] at hx⟩, rfl, MemFits.pre 1 rfl⟩
        rw [if_neg (show ¬ (Pd.T.mk yk yf yv yl).k ≤ 2 from by show ¬ yk ≤ 2; omega)]
        (repeat' (first|(with_reducible first|(refine hK _ _ ?_;clear hK K)|(refine hA ?_;clear hA hB A B)|(refine hB ?_;clear hA hB A B)|(refine hK _ ?_;clear hK K))|((with_reducible refine gO ?_);(first|((with_reducible first|refine z25 ?_|refine z26 ?_);intro K hK;(conv=>whnf))|(with_reducible refine z0 ?_)))|((first|((with_reducible refine gI ?_);(first|((with_reducible refine NIf.decY ?s ?_);case s=>with_reducible rfl)|((with_reducible refine NIf.decN ?s ?_);case s=>first|assumption|omega)|((with_reducible refine NIf.no ?s ?_);case s=>rfl)))|((with_reducible refine gN ?_);(with_reducible first|refine NN.lit ?_|refine NN.a5 ?_|refine NN.a6 ?_))|((with_reducible refine gH ?_);((with_reducible refine NH.mk ?s ?_);case s=>(and_intros<;>first|with_reducible rfl|((with_reducible refine gOnes ?_);rfl)|((with_reducible refine gLen ?_);rfl)|omega)))|((with_reducible refine gC ?_);((with_reducible refine NCall.isF 25 ?_);refine NCall.subw [0] _ _ (c) rfl (by decide) rfl ?_; rintro _ _ ⟨G', w', hle2, hrow, rfl, rfl⟩; refine ⟨Nat.le_of_ble_eq_true rfl, _, rfl, ?_⟩))|(with_reducible refine NLd.of (by with_reducible assumption) ?_))<;>(conv=>whnf))|((with_reducible refine gX ?_);(first|(with_reducible first|refine z3 ?_|refine z4 ?_|refine z6 ?_|refine z8 ?_)|((with_reducible refine z29 ?_);intro A B hA hB;(conv=>whnf))))|(with_reducible first|refine z1 ?_|refine z2 ?_|refine z12 ?_)|((with_reducible refine gR ?_);((refine z31 rfl ?_);intro K hK;(conv=>whnf)))|((with_reducible refine gF ?_);((refine z33 rfl ?_);intro K hK;(conv=>whnf)))|((intro _;skip)<;>(conv=>whnf))))
        all_goals exact .inl ⟨G', _, [(⟨yk, yf, yv, yl⟩, w')], hle2, rfl, fun p hp => by rw [List.mem_singleton.1 hp]; exact hrow, rfl, MemFits.pick [0, 4] (by decide) rfl⟩
    by_cases h35 : k = 3 ∧ f = 5
    · obtain ⟨rfl, rfl⟩ := h35
      rw [Pd.cut_sw]
      refine ncall_of Tryz.func25 rfl (by decide) ?_
      by_cases hv : v = sw
      · rw [if_pos hv]
        subst hv
        (repeat' (first|(with_reducible first|(refine hK _ _ ?_;clear hK K)|(refine hA ?_;clear hA hB A B)|(refine hK _ ?_;clear hK K))|((with_reducible refine gO ?_);(first|((with_reducible first|refine z25 ?_|refine z26 ?_);intro K hK;(conv=>whnf))|(with_reducible refine z0 ?_)))|((first|((with_reducible refine gI ?_);(((with_reducible refine NIf.decY ?s ?_);case s=>with_reducible rfl)))|((with_reducible refine gN ?_);(with_reducible refine NN.a5 ?_))|((with_reducible refine gH ?_);((with_reducible refine NH.mk ?s ?_);case s=>(and_intros<;>first|with_reducible rfl|((with_reducible refine gOnes ?_);rfl)|((with_reducible refine gLen ?_);rfl)))))<;>(conv=>whnf))|((with_reducible refine gX ?_);(first|(with_reducible first|refine z3 ?_|refine z4 ?_|refine z8 ?_)|((with_reducible refine z29 ?_);intro A B hA hB;(conv=>whnf))))|(with_reducible first|refine z1 ?_|refine z2 ?_|refine z12 ?_)|((with_reducible refine gR ?_);((refine z31 rfl ?_);intro K hK;(conv=>whnf)))|((with_reducible refine gF ?_);((refine z33 rfl ?_);intro K hK;(conv=>whnf)))|((intro _;skip)<;>(conv=>whnf))))
        all_goals exact .inr ⟨F, .slice none 0 0, F.le_refl, ⟨SlOk.nil, fun k x hx => by simp [Pd.T.l] at hx⟩, rfl, MemFits.pre 1 rfl⟩
      · rw [if_neg hv]
        (repeat' (first|(with_reducible first|(refine hK _ _ ?_;clear hK K)|(refine hA ?_;clear hA hB A B)|(refine hB ?_;clear hA hB A B)|(refine hK _ ?_;clear hK K))|((with_reducible refine gO ?_);(first|((with_reducible first|refine z25 ?_|refine z26 ?_);intro K hK;(conv=>whnf))|(with_reducible refine z0 ?_)))|((first|((with_reducible refine gI ?_);(first|((with_reducible refine NIf.decY ?s ?_);case s=>with_reducible rfl)|((with_reducible refine NIf.decN ?s ?_);case s=>assumption)))|((with_reducible refine gN ?_);(with_reducible refine NN.a5 ?_))|((with_reducible refine gH ?_);((with_reducible refine NH.mk ?s ?_);case s=>(and_intros<;>first|with_reducible rfl|((with_reducible refine gOnes ?_);rfl)|((with_reducible refine gLen ?_);rfl)))))<;>(conv=>whnf))|((with_reducible refine gX ?_);(first|(with_reducible first|refine z3 ?_|refine z4 ?_|refine z6 ?_|refine z8 ?_)|((with_reducible refine z29 ?_);intro A B hA hB;(conv=>whnf))))|(with_reducible first|refine z1 ?_|refine z2 ?_|refine z12 ?_)|((with_reducible refine gR ?_);((refine z31 rfl ?_);intro K hK;(conv=>whnf)))|((with_reducible refine gF ?_);((refine z33 rfl ?_);intro K hK;(conv=>whnf)))|((intro _;skip)<;>(conv=>whnf))))
        all_goals exact .inr ⟨F, .slice none 0 0, F.le_refl, ⟨SlOk.nil, fun k x hx => by simp [Pd.T.l] at hx⟩, rfl, MemFits.pre 1 rfl⟩
    · have hl0 : l = [] := List.eq_nil_of_length_eq_zero (by omega)
      have hk3 : k < 4 := by omega
      subst hl0
      rw [Pd.cut_no _ _ _ _ h35 (by omega)]
      clear ih hff hsh
      refine ncall_of Tryz.func25 rfl (by decide) ?_
      (repeat' (first|(with_reducible first|(refine hK _ _ ?_;clear hK K)|(refine hA ?_;clear hA hB A B)|(refine hB ?_;clear hA hB A B)|(refine hK _ ?_;clear hK K))|((with_reducible refine gO ?_);(first|((with_reducible first|refine z25 ?_|refine z26 ?_);intro K hK;(conv=>whnf))|(with_reducible refine z0 ?_)))|((first|((with_reducible refine gI ?_);(first|((with_reducible refine NIf.decY ?s ?_);case s=>assumption)|((with_reducible refine NIf.decN ?s ?_);case s=>first|assumption|omega)|((with_reducible refine NIf.no ?s ?_);case s=>rfl)|(with_reducible refine NIf.dec (fun _=>?_) (fun _=>?_))))|((with_reducible refine gN ?_);(with_reducible refine NN.a5 ?_))|((with_reducible refine gH ?_);((with_reducible refine NH.mk ?s ?_);case s=>(and_intros<;>first|with_reducible rfl|((with_reducible refine gOnes ?_);rfl)|((with_reducible refine gLen ?_);rfl)))))<;>(conv=>whnf))|((with_reducible refine gX ?_);(first|(with_reducible first|refine z3 ?_|refine z4 ?_|refine z6 ?_|refine z8 ?_)|((with_reducible refine z29 ?_);intro A B hA hB;(conv=>whnf))))|(with_reducible first|refine z1 ?_|refine z2 ?_|refine z12 ?_)|((with_reducible refine gR ?_);((refine z31 rfl ?_);intro K hK;(conv=>whnf)))|((with_reducible refine gF ?_);((refine z33 rfl ?_);intro K hK;(conv=>whnf)))|((intro _;skip)<;>(conv=>whnf))))
      all_goals exact .inr ⟨F, u, F.le_refl, hu, rfl, MemFits.pre 1 rfl⟩
end Go.Proofs.YtpkjnmddembkjaaGreatDoor
