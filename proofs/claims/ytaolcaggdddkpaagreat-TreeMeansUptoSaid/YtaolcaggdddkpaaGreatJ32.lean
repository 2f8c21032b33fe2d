/-
  Policies: what they are at a switch, by the program. (Printed by gen_po9.py.); How many cells a policy has; may it be laid into a network? By the program. (Printed by gen_ck6.py.).
-/
import Derived.Test.YtaolcaggdddkpaaGreatJ4
import Derived.Test.YtaolcaggdddkpaaGreatJ29
import Derived.Test.YtaolcaggdddkpaaGreatJ31
import Derived.Test.YtaolcaggdddkpaaGreatJ27
import Derived.Test.YtaolcaggdddkpaaGreatJ25
import Derived.Test.YtaolcaggdddkpaaGreatJ28
namespace Go.Proofs.YtaolcaggdddkpaaGreat
open Go.Sx
set_option maxRecDepth 20000
set_option linter.unusedSimpArgs false
set_option linter.unusedVariables false
set_option maxHeartbeats 4000000
set_option linter.unusedVariables false
namespace Po
theorem psC_cons (p : L) (ps : List L) : psC (p :: ps) = cs p.x p.pu p.u ++ psC ps := rfl
/-- What is made stands for a policy, be it laid by another or not. -/
def Out (F : Heap) (t : TypeId) (X : T) (v : AV) (m : List Blk) : Prop :=
  Got F t X v m ∨ ∃ G pu u, F.le G ∧ At G X pu u ∧ v.den = (AV.agg (cs X pu u)).den ∧ MemFits m [hpB G]
theorem out_know {f : FuncId} {args : List AV} {F : Heap} {t : TypeId} {m : List Blk} {X : T} (h : NCall Tryz.prog f args m fun v m' => Out F t X v m') :
    NCall Tryz.prog f args m fun v m' => Lays F X v m' := by
  refine Go.Sx.NCall.know h fun r m' hq ⟨w, hw⟩ => ?_
  rcases hq with ⟨G, pu, u, ps, hle, hmap, hall, hpr, hr, hm⟩ | ⟨G, pu, u, hle, hat, hr, hm⟩
  · have hok := ((hm w hw).1.row (List.mem_cons_of_mem _ (List.mem_cons_self ..))).1
    have hrow := rowF_new (F := G) (sz := 8) (enc := psV) hok (psC_den ps) (fun x _ => rfl)
    refine ⟨_, _, hr.symm, hm.trans (MemFits.freeze (m := [])), _, pu, u, hle.trans addF.old, ⟨Pd.Row.mono addF.old hpr, ?_⟩, rfl, rfl⟩
    rw [← hmap]
    exact row_of hrow fun p hp => At.mono addF.old (hall p hp)
  · exact ⟨_, _, hr.symm, hm, G, pu, u, hle, hat, rfl, rfl⟩
end Po
theorem Pd.nilRow (F : Heap) : Pd.Row F (.slice .none 0 0) [] := ⟨SlOk.nil, fun k x hx => by simp at hx⟩
theorem at27_out (F : Heap) (k f v : Int) (p : Pd.T) (l : List Po.T) (pu u : Value) (sw : Int) (hkk : ¬ (k = 1 ∨ k = 5)) (hs : Pd.size p ≤ 1000000000000) (hl : l.length ≤ 8) (h5 : k = 5 → l.length = 2) (hpf : (k = 1 ∨ k = 5) → Pd.fits p = true) (hu : Po.Row F u l) (hpu : Pd.Row F pu p.l)
    (ih : ∀ G, ∀ y ∈ l, ∀ pw w, Po.At G y pw w → NCall Tryz.prog 24 [.agg (Po.cs y pw w), .int .i64 sw] [hpB G] fun r m => Po.Lays G (Po.spec sw y) r m) :
    NCall Tryz.prog 24 [.agg (Po.cs (.mk k p f v l) pu u), .int .i64 sw] [hpB F] fun r m => Po.Out F 41 (Po.spec sw (.mk k p f v l)) r m := by
  have hok := hu.ok
  have hpok := hpu.ok
  rw [Po.spec_mk, if_neg (fun h => hkk (.inr h.1)), if_neg hkk]
  rw [po_cs]
  have hk1 : ¬ k = 1 := fun h => hkk (.inl h)
  have hk5 : ¬ k = 5 := fun h => hkk (.inr h)
  clear hpf h5 hkk
  obtain ⟨pk, pf, pv, pl⟩ := p
  simp only [pd_cs, Pd.T.k, Pd.T.f, Pd.T.v, Pd.T.l] at *
  refine ncall_of Tryz.func24 rfl (by decide) ?_
  (repeat' (first|(with_reducible first|(refine hK _ _ ?_;clear hK K)|(refine hB ?_;clear hA hB A B)|(refine hK _ ?_;clear hK K))|((with_reducible refine gO ?_);(first|((with_reducible first|refine z25 ?_|refine z26 ?_);intro K hK;(conv=>whnf))|(with_reducible refine z0 ?_)))|((first|((with_reducible refine gI ?_);(((with_reducible refine NIf.decN ?s ?_);case s=>assumption)))|((with_reducible refine gN ?_);(with_reducible refine NN.a5 ?_))|((with_reducible refine gH ?_);((with_reducible refine NH.mk ?s ?_);case s=>(and_intros<;>first|with_reducible rfl|((with_reducible refine gOnes ?_);rfl)|((with_reducible refine gLen ?_);rfl)|omega))))<;>(conv=>whnf))|((with_reducible refine gX ?_);(first|(with_reducible first|refine z3 ?_|refine z4 ?_|refine z5 ?_|refine z6 ?_)|((with_reducible refine z29 ?_);intro A B hA hB;(conv=>whnf))))|(with_reducible first|refine z1 ?_|refine z2 ?_)|((with_reducible refine gF ?_);((refine z33 rfl ?_);intro K hK;(conv=>whnf)))|((intro _;skip)<;>(conv=>whnf))))
  all_goals
    refine st_auto (α := Heap × Value × List Po.L) (fun (G, w, ps) => F.le G ∧ ps.map (·.x) = (l.take ps.length).map (Po.spec sw) ∧ ps.length ≤ l.length ∧ ∀ p ∈ ps, Po.At G p.x p.pu p.u) (fun (G, w, ps) => [.keep, .keep, .keep, .keep, .keep, .keep, .keep, .drop, .keep, .keep, .keep, .keep, .keep, .keep, .keep, .keep, .keep, .keep, .keep, .keep, .keep, .keep, .keep, .keep, .keep, .keep, .keep, .keep, .keep, .keep, .keep, .set (.int .i64 ps.length), .drop, .drop, .drop, .drop, .drop, .drop, .drop, .drop, .drop, .drop, .drop, .drop, .keep, .keep, .keep, .keep, .keep, .keep, .keep, .keep, .keep, .keep, .keep, .keep, .keep, .keep, .keep, .keep, .keep, .keep])
      (fun (G, w, ps) => [.set (hpB G), .keep, .keep, .cells [.int .i64 k, .int .i64 0, .int .i64 0, .int .i64 0, .raw (.slice .none 0 0), .int .i64 f, .int .i64 v, .sl 4 w ps.length], .set ⟨addrOf w, Po.psC ps, .row w 41 8 ps.length⟩]) (fun (G, w, ps) => l.length - ps.length) (F, .slice .none 0 0, []) ⟨F.le_refl, rfl, Nat.zero_le _, fun p hp => by simp at hp⟩ ?_ ((MemFits.nilRow _ 41 8).trans (MemFits.congr rfl)) ?_
    · repeat (first|exact FitsSl.nil|refine FitsSl.any ?_|refine FitsSl.cons (Fit1.int (by first | rfl | omega)) ?_|refine FitsSl.cons (Fit1.bool rfl) ?_|refine FitsSl.cons (Fit1.same (by intro h; cases h) (by with_reducible rfl)) ?_)
    (intro ⟨G, w, ps⟩ ⟨hle, hmap, hlen, hall⟩; intro K hK; (conv=>whnf); refine hK _ _ ?_; clear hK K)
    dsimp only
    generalize hk : ps.length = i at *
    by_cases hlt : i < l.length
    · have hx : l[i]? = some l[i] := List.getElem?_eq_getElem hlt
      obtain ⟨pA, pcap, A, cap, hA, c0, c1, c2, c3, c4, c5, c6, c7⟩ := (Po.Row.mono hle hu).get hx
      have hAo := hA.l.ok
      have hAp := hA.p.ok
      have hmem := List.mem_of_getElem? hx
      have c := ih G _ hmem _ _ hA
      have hnx : (l.take (i + 1)).map (Po.spec sw) = (l.take i).map (Po.spec sw) ++ [Po.spec sw l[i]] := by rw [List.take_add_one, hx, List.map_append]; rfl
      clear ih
      generalize Po.spec sw l[i] = z at *
      generalize l[i] = y at *
      have hpl := Po.psC_len ps
      have hpn := Po.psC_next ps
      generalize hpc : Po.psC ps = pc at *
      obtain ⟨yk, ⟨ypk, ypf, ypv, ypl⟩, yf, yv, yl⟩ := y
      obtain ⟨zk, ⟨zpk, zpf, zpv, zpl⟩, zf, zv, zl⟩ := z
      simp only [Po.Lays, Po.cs, Po.T.k, Po.T.p, Po.T.f, Po.T.v, Po.T.l, Pd.T.k, Pd.T.f, Pd.T.v, Pd.T.l] at c c0 c1 c2 c3 c4 c5 c6 c7 hAo hAp
      (repeat' (first|(with_reducible first|(refine hK _ _ ?_;clear hK K)|(refine hA ?_;clear hA hB A B)|(refine hK _ ?_;clear hK K))|((with_reducible refine gO ?_);(first|((with_reducible refine z25 ?_);intro K hK;(conv=>whnf))|(with_reducible refine z0 ?_)))|((first|((with_reducible refine gV ?_);(((with_reducible refine NV.i64 ?s ?_);case s=>omega)))|((with_reducible refine gI ?_);(((with_reducible refine NIf.decY ?s ?_);case s=>omega)))|((with_reducible refine gN ?_);(with_reducible first|refine NN.cast ?_|refine NN.a5 ?_|refine NN.keep ?_))|((with_reducible refine gH ?_);((with_reducible refine NH.mk ?s ?_);case s=>(and_intros<;>first|with_reducible rfl|((with_reducible refine gOnes ?_);rfl)|((with_reducible refine gLen ?_);rfl)|omega)))|((with_reducible refine gC ?_);((with_reducible refine NCall.isF 24 ?_);refine NCall.subw [0] _ _ (c) rfl (by decide) rfl ?_; rintro _ _ ⟨G', pw', w', hle2, hrow, rfl, rfl⟩; refine ⟨Nat.le_of_ble_eq_true rfl, _, rfl, ?_⟩))|(with_reducible refine NLd.of (by with_reducible assumption) ?_))<;>(conv=>whnf))|((with_reducible refine gNO ?_);(first|(refine z36 rfl (by kernel_rfl) ?_; intro K hK; (conv=>whnf))|(refine z38 rfl (by kernel_rfl) ?_)|(refine z39 rfl rfl (by kernel_rfl) (by intro h; cases h) ?_)))|((with_reducible refine gNE ?_);(first|(refine z40 ?_ ?_; (intro K hK; (conv=>whnf)))|exact z42))|((with_reducible refine gX ?_);(first|(refine z35 (by kernel_rfl) _ rfl ?_)|(with_reducible first|refine z3 ?_|refine z4 ?_|refine z5 ?_|refine z6 ?_)|((with_reducible refine z29 ?_);intro A B hA hB;(conv=>whnf))))|(with_reducible first|refine z1 ?_|refine z2 ?_|refine z9 ?_)|((intro _;skip)<;>(conv=>whnf))))
      all_goals
        rename_i v9
        refine st_round (G', v9, ps ++ [⟨.mk zk (.mk zpk zpf zpv zpl) zf zv zl, pw', w'⟩]) ⟨hle.trans hle2, by rw [List.map_append, hmap, List.length_append, hk]; exact hnx.symm, by rw [List.length_append, hk]; exact hlt, fun x hx => ?_⟩ (by rw [List.length_append, hk]; show l.length - (i + 1) < l.length - i; omega) ?_ (MemFits.pre 5 ?_)
        · rcases List.mem_append.1 hx with hx | hx
          · exact Po.At.mono hle2 (hall x hx)
          · rw [List.mem_singleton.1 hx]; exact hrow
        · simp only [List.length_append, hk]
          repeat (first|exact FitsSl.nil|refine FitsSl.any ?_|refine FitsSl.cons (Fit1.int (by first | rfl | omega)) ?_|refine FitsSl.cons (Fit1.bool rfl) ?_|refine FitsSl.cons (Fit1.same (by intro h; cases h) (by with_reducible rfl)) ?_)
        · simp only [autoM, List.take, List.length_append, hk, hpn]
          rw [show i + [(⟨.mk zk (.mk zpk zpf zpv zpl) zf zv zl, pw', w'⟩ : Po.L)].length = i + 1 from rfl]
          rfl
    · have hkl : i = l.length := by omega
      subst hkl
      rw [List.take_length] at hmap
      clear ih
      (repeat' (first|(with_reducible first|(refine hK _ _ ?_;clear hK K)|(refine hB ?_;clear hA hB A B)|(refine hK _ ?_;clear hK K))|((with_reducible refine gO ?_);(first|((with_reducible first|refine z25 ?_|refine z26 ?_);intro K hK;(conv=>whnf))|(with_reducible refine z0 ?_)))|((first|((with_reducible refine gI ?_);(first|((with_reducible refine NIf.decN ?s ?_);case s=>first|assumption|omega)|((with_reducible refine NIf.no ?s ?_);case s=>rfl)))|((with_reducible refine gN ?_);(with_reducible refine NN.a5 ?_))|((with_reducible refine gH ?_);((with_reducible refine NH.mk ?s ?_);case s=>(and_intros<;>first|with_reducible rfl|((with_reducible refine gOnes ?_);rfl)|((with_reducible refine gLen ?_);rfl)))))<;>(conv=>whnf))|((with_reducible refine gX ?_);(first|(with_reducible first|refine z3 ?_|refine z4 ?_|refine z6 ?_|refine z7 ?_|refine z8 ?_)|((with_reducible refine z29 ?_);intro A B hA hB;(conv=>whnf))))|(with_reducible first|refine z1 ?_|refine z2 ?_|refine z10 ?_|refine z11 ?_|refine z19 ?_)|((with_reducible refine gR ?_);((refine z31 rfl ?_);intro K hK;(conv=>whnf)))))
      all_goals exact .inl ⟨G, .slice .none 0 0, w, ps, hle, hmap, hall, Pd.nilRow G, by simp only [Po.cs, Po.T.k, Po.T.p, Po.T.f, Po.T.v, Po.T.l, Pd.T.k, Pd.T.f, Pd.T.v, Pd.T.l, List.length_map]; rfl, by rw [hk]; exact MemFits.pick [0, 4] (by decide) rfl⟩
theorem at27_in1 (F : Heap) (k f v : Int) (p : Pd.T) (l : List Po.T) (pu u : Value) (sw : Int) (hkk : k = 1) (hs : Pd.size p ≤ 1000000000000) (hl : l.length ≤ 8) (h5 : k = 5 → l.length = 2) (hpf : (k = 1 ∨ k = 5) → Pd.fits p = true) (hu : Po.Row F u l) (hpu : Pd.Row F pu p.l)
    (ih : ∀ G, ∀ y ∈ l, ∀ pw w, Po.At G y pw w → NCall Tryz.prog 24 [.agg (Po.cs y pw w), .int .i64 sw] [hpB G] fun r m => Po.Lays G (Po.spec sw y) r m) :
    NCall Tryz.prog 24 [.agg (Po.cs (.mk k p f v l) pu u), .int .i64 sw] [hpB F] fun r m => Po.Out F 41 (Po.spec sw (.mk k p f v l)) r m := by
  have hok := hu.ok
  have hpok := hpu.ok
  have hk15 : k = 1 ∨ k = 5 := by omega
  have cp := cut26_c _ F p pu sw (Nat.le_refl _) hs (hpf hk15) hpu
  have hq0 := Pd.fits_k (Pd.cut_fits sw p (hpf hk15))
  have hX1 : k = 5 → (Pd.cut sw p).k ≤ 2 → Po.spec sw (.mk k p f v l) = (l.map (Po.spec sw))[((Pd.cut sw p).k - 1).toNat]?.getD Po.zero := fun h1 h2 => by rw [Po.spec_mk, if_pos ⟨h1, h2⟩]
  have hX2 : ¬ (k = 5 ∧ (Pd.cut sw p).k ≤ 2) → Po.spec sw (.mk k p f v l) = .mk k (Pd.cut sw p) f v (l.map (Po.spec sw)) := fun h => by rw [Po.spec_mk, if_neg h, if_pos hk15]
  generalize Po.spec sw (.mk k p f v l) = X at *
  generalize Pd.cut sw p = q at *
  rw [po_cs]
  clear hpf hk15
  obtain ⟨pk, pf, pv, pl⟩ := p
  obtain ⟨qk, qf, qv, ql⟩ := q
  simp only [Pd.Lays, pd_cs, Pd.T.k, Pd.T.f, Pd.T.v, Pd.T.l] at *
  subst hkk
  refine ncall_of Tryz.func24 rfl (by decide) ?_
  (repeat' (first|(with_reducible first|(refine hK _ _ ?_;clear hK K)|(refine hA ?_;clear hA hB A B)|(refine hK _ ?_;clear hK K))|((with_reducible refine gO ?_);(first|((with_reducible first|refine z25 ?_|refine z26 ?_);intro K hK;(conv=>whnf))|(with_reducible refine z0 ?_)))|((first|((with_reducible refine gI ?_);(first|((with_reducible refine NIf.decY ?s ?_);case s=>with_reducible rfl)|((with_reducible refine NIf.yes ?s ?_);case s=>rfl)))|((with_reducible refine gN ?_);(with_reducible refine NN.a5 ?_))|((with_reducible refine gH ?_);((with_reducible refine NH.mk ?s ?_);case s=>(and_intros<;>first|with_reducible rfl|((with_reducible refine gOnes ?_);rfl)|((with_reducible refine gLen ?_);rfl)|omega)))|((with_reducible refine gC ?_);((with_reducible refine NCall.isF 54 ?_);refine NCall.subw [0] _ _ (cp) rfl (by decide) rfl ?_; rintro _ _ ⟨F1, pu1, hle1, hpu1, rfl, rfl⟩; refine ⟨Nat.le_of_ble_eq_true rfl, _, rfl, ?_⟩)))<;>(conv=>whnf))|((with_reducible refine gX ?_);(first|(with_reducible first|refine z3 ?_|refine z4 ?_|refine z5 ?_)|((with_reducible refine z29 ?_);intro A B hA hB;(conv=>whnf))))|(with_reducible first|refine z1 ?_|refine z2 ?_)|((with_reducible refine gF ?_);((refine z33 rfl ?_);intro K hK;(conv=>whnf)))|((intro _;skip)<;>(conv=>whnf))))
  all_goals
    have hpok1 := hpu1.ok
    refine st_auto (α := Heap × Value × List Po.L) (fun (G, w, ps) => F1.le G ∧ ps.map (·.x) = (l.take ps.length).map (Po.spec sw) ∧ ps.length ≤ l.length ∧ ∀ p ∈ ps, Po.At G p.x p.pu p.u) (fun (G, w, ps) => [.keep, .keep, .keep, .keep, .keep, .keep, .keep, .drop, .keep, .keep, .keep, .keep, .keep, .keep, .keep, .keep, .keep, .keep, .keep, .keep, .keep, .keep, .keep, .keep, .keep, .keep, .keep, .keep, .keep, .keep, .keep, .set (.int .i64 ps.length), .drop, .drop, .drop, .drop, .drop, .drop, .drop, .drop, .drop, .drop, .drop, .drop, .keep, .keep, .keep, .keep, .keep, .keep, .keep, .keep, .keep, .keep, .keep, .keep, .keep, .keep, .keep, .keep, .keep, .keep])
      (fun (G, w, ps) => [.set (hpB G), .keep, .keep, .cells [.int .i64 1, .int .i64 qk, .int .i64 qf, .int .i64 qv, .hs pu1 ql.length, .int .i64 f, .int .i64 v, .sl 4 w ps.length], .set ⟨addrOf w, Po.psC ps, .row w 41 8 ps.length⟩]) (fun (G, w, ps) => l.length - ps.length) (F1, .slice .none 0 0, []) ⟨F1.le_refl, rfl, Nat.zero_le _, fun p hp => by simp at hp⟩ ?_ ((MemFits.nilRow _ 41 8).trans (MemFits.congr rfl)) ?_
    · repeat (first|exact FitsSl.nil|refine FitsSl.any ?_|refine FitsSl.cons (Fit1.int (by first | rfl | omega)) ?_|refine FitsSl.cons (Fit1.bool rfl) ?_|refine FitsSl.cons (Fit1.same (by intro h; cases h) (by with_reducible rfl)) ?_)
    (intro ⟨G, w, ps⟩ ⟨hle, hmap, hlen, hall⟩; intro K hK; (conv=>whnf); refine hK _ _ ?_; clear hK K)
    dsimp only
    generalize hk : ps.length = i at *
    by_cases hlt : i < l.length
    · have hx : l[i]? = some l[i] := List.getElem?_eq_getElem hlt
      obtain ⟨pA, pcap, A, cap, hA, c0, c1, c2, c3, c4, c5, c6, c7⟩ := (Po.Row.mono (hle1.trans hle) hu).get hx
      have hAo := hA.l.ok
      have hAp := hA.p.ok
      have hmem := List.mem_of_getElem? hx
      have c := ih G _ hmem _ _ hA
      have hnx : (l.take (i + 1)).map (Po.spec sw) = (l.take i).map (Po.spec sw) ++ [Po.spec sw l[i]] := by rw [List.take_add_one, hx, List.map_append]; rfl
      clear ih
      generalize Po.spec sw l[i] = z at *
      generalize l[i] = y at *
      have hpl := Po.psC_len ps
      have hpn := Po.psC_next ps
      generalize hpc : Po.psC ps = pc at *
      obtain ⟨yk, ⟨ypk, ypf, ypv, ypl⟩, yf, yv, yl⟩ := y
      obtain ⟨zk, ⟨zpk, zpf, zpv, zpl⟩, zf, zv, zl⟩ := z
      simp only [Po.Lays, Po.cs, Po.T.k, Po.T.p, Po.T.f, Po.T.v, Po.T.l, Pd.T.k, Pd.T.f, Pd.T.v, Pd.T.l] at c c0 c1 c2 c3 c4 c5 c6 c7 hAo hAp
      (repeat' (first|(with_reducible first|(refine hK _ _ ?_;clear hK K)|(refine hA ?_;clear hA hB A B)|(refine hK _ ?_;clear hK K))|((with_reducible refine gO ?_);(first|((with_reducible refine z25 ?_);intro K hK;(conv=>whnf))|(with_reducible refine z0 ?_)))|((first|((with_reducible refine gV ?_);(((with_reducible refine NV.i64 ?s ?_);case s=>omega)))|((with_reducible refine gI ?_);(((with_reducible refine NIf.decY ?s ?_);case s=>omega)))|((with_reducible refine gN ?_);(with_reducible first|refine NN.cast ?_|refine NN.a5 ?_|refine NN.keep ?_))|((with_reducible refine gH ?_);((with_reducible refine NH.mk ?s ?_);case s=>(and_intros<;>first|with_reducible rfl|((with_reducible refine gOnes ?_);rfl)|((with_reducible refine gLen ?_);rfl)|omega)))|((with_reducible refine gC ?_);((with_reducible refine NCall.isF 24 ?_);refine NCall.subw [0] _ _ (c) rfl (by decide) rfl ?_; rintro _ _ ⟨G', pw', w', hle2, hrow, rfl, rfl⟩; refine ⟨Nat.le_of_ble_eq_true rfl, _, rfl, ?_⟩))|(with_reducible refine NLd.of (by with_reducible assumption) ?_))<;>(conv=>whnf))|((with_reducible refine gNO ?_);(first|(refine z36 rfl (by kernel_rfl) ?_; intro K hK; (conv=>whnf))|(refine z38 rfl (by kernel_rfl) ?_)|(refine z39 rfl rfl (by kernel_rfl) (by intro h; cases h) ?_)))|((with_reducible refine gNE ?_);(first|(refine z40 ?_ ?_; (intro K hK; (conv=>whnf)))|exact z42))|((with_reducible refine gX ?_);(first|(refine z35 (by kernel_rfl) _ rfl ?_)|(with_reducible first|refine z3 ?_|refine z4 ?_|refine z5 ?_|refine z6 ?_)|((with_reducible refine z29 ?_);intro A B hA hB;(conv=>whnf))))|(with_reducible first|refine z1 ?_|refine z2 ?_|refine z9 ?_)|((intro _;skip)<;>(conv=>whnf))))
      all_goals
        rename_i v9
        refine st_round (G', v9, ps ++ [⟨.mk zk (.mk zpk zpf zpv zpl) zf zv zl, pw', w'⟩]) ⟨hle.trans hle2, by rw [List.map_append, hmap, List.length_append, hk]; exact hnx.symm, by rw [List.length_append, hk]; exact hlt, fun x hx => ?_⟩ (by rw [List.length_append, hk]; show l.length - (i + 1) < l.length - i; omega) ?_ (MemFits.pre 5 ?_)
        · rcases List.mem_append.1 hx with hx | hx
          · exact Po.At.mono hle2 (hall x hx)
          · rw [List.mem_singleton.1 hx]; exact hrow
        · simp only [List.length_append, hk]
          repeat (first|exact FitsSl.nil|refine FitsSl.any ?_|refine FitsSl.cons (Fit1.int (by first | rfl | omega)) ?_|refine FitsSl.cons (Fit1.bool rfl) ?_|refine FitsSl.cons (Fit1.same (by intro h; cases h) (by with_reducible rfl)) ?_)
        · simp only [autoM, List.take, List.length_append, hk, hpn]
          rw [show i + [(⟨.mk zk (.mk zpk zpf zpv zpl) zf zv zl, pw', w'⟩ : Po.L)].length = i + 1 from rfl]
          rfl
    · have hkl : i = l.length := by omega
      subst hkl
      rw [List.take_length] at hmap
      clear ih cp
      have hX2 := hX2 (fun h => absurd h.1 (by decide))
      rw [hX2]
      clear hX1 hX2 h5
      (repeat' (first|(with_reducible first|(refine hK _ _ ?_;clear hK K)|(refine hB ?_;clear hA hB A B)|(refine hK _ ?_;clear hK K))|((with_reducible refine gO ?_);(first|((with_reducible first|refine z25 ?_|refine z26 ?_);intro K hK;(conv=>whnf))|(with_reducible refine z0 ?_)))|((first|((with_reducible refine gI ?_);(first|((with_reducible refine NIf.decN ?s ?_);case s=>omega)|((with_reducible refine NIf.no ?s ?_);case s=>rfl)))|((with_reducible refine gN ?_);(with_reducible refine NN.a5 ?_))|((with_reducible refine gH ?_);((with_reducible refine NH.mk ?s ?_);case s=>(and_intros<;>first|with_reducible rfl|((with_reducible refine gOnes ?_);rfl)|((with_reducible refine gLen ?_);rfl)))))<;>(conv=>whnf))|((with_reducible refine gX ?_);(first|(with_reducible first|refine z3 ?_|refine z4 ?_|refine z6 ?_|refine z7 ?_|refine z8 ?_)|((with_reducible refine z29 ?_);intro A B hA hB;(conv=>whnf))))|(with_reducible first|refine z1 ?_|refine z2 ?_|refine z10 ?_|refine z11 ?_|refine z19 ?_)|((with_reducible refine gR ?_);((refine z31 rfl ?_);intro K hK;(conv=>whnf)))))
      all_goals exact .inl ⟨G, pu1, w, ps, hle1.trans hle, hmap, hall, Pd.Row.mono hle hpu1, by simp only [Po.cs, Po.T.k, Po.T.p, Po.T.f, Po.T.v, Po.T.l, Pd.T.k, Pd.T.f, Pd.T.v, Pd.T.l, List.length_map]; rfl, by rw [hk]; exact MemFits.pick [0, 4] (by decide) rfl⟩
theorem at27_in5 (F : Heap) (k f v : Int) (p : Pd.T) (l : List Po.T) (pu u : Value) (sw : Int) (hkk : k = 5) (hs : Pd.size p ≤ 1000000000000) (hl : l.length ≤ 8) (h5 : k = 5 → l.length = 2) (hpf : (k = 1 ∨ k = 5) → Pd.fits p = true) (hu : Po.Row F u l) (hpu : Pd.Row F pu p.l)
    (ih : ∀ G, ∀ y ∈ l, ∀ pw w, Po.At G y pw w → NCall Tryz.prog 24 [.agg (Po.cs y pw w), .int .i64 sw] [hpB G] fun r m => Po.Lays G (Po.spec sw y) r m) :
    NCall Tryz.prog 24 [.agg (Po.cs (.mk k p f v l) pu u), .int .i64 sw] [hpB F] fun r m => Po.Out F 41 (Po.spec sw (.mk k p f v l)) r m := by
  have hok := hu.ok
  have hpok := hpu.ok
  have hk15 : k = 1 ∨ k = 5 := by omega
  have cp := cut26_c _ F p pu sw (Nat.le_refl _) hs (hpf hk15) hpu
  have hq0 := Pd.fits_k (Pd.cut_fits sw p (hpf hk15))
  have hX1 : k = 5 → (Pd.cut sw p).k ≤ 2 → Po.spec sw (.mk k p f v l) = (l.map (Po.spec sw))[((Pd.cut sw p).k - 1).toNat]?.getD Po.zero := fun h1 h2 => by rw [Po.spec_mk, if_pos ⟨h1, h2⟩]
  have hX2 : ¬ (k = 5 ∧ (Pd.cut sw p).k ≤ 2) → Po.spec sw (.mk k p f v l) = .mk k (Pd.cut sw p) f v (l.map (Po.spec sw)) := fun h => by rw [Po.spec_mk, if_neg h, if_pos hk15]
  generalize Po.spec sw (.mk k p f v l) = X at *
  generalize Pd.cut sw p = q at *
  rw [po_cs]
  clear hpf hk15
  obtain ⟨pk, pf, pv, pl⟩ := p
  obtain ⟨qk, qf, qv, ql⟩ := q
  simp only [Pd.Lays, pd_cs, Pd.T.k, Pd.T.f, Pd.T.v, Pd.T.l] at *
  subst hkk
  refine ncall_of Tryz.func24 rfl (by decide) ?_
  (repeat' (first|(with_reducible first|(refine hK _ _ ?_;clear hK K)|(refine hA ?_;clear hA hB A B)|(refine hK _ ?_;clear hK K))|((with_reducible refine gO ?_);(first|((with_reducible first|refine z25 ?_|refine z26 ?_);intro K hK;(conv=>whnf))|(with_reducible refine z0 ?_)))|((first|((with_reducible refine gI ?_);(first|((with_reducible refine NIf.decY ?s ?_);case s=>with_reducible rfl)|((with_reducible refine NIf.decN ?s ?_);case s=>omega)))|((with_reducible refine gN ?_);(with_reducible refine NN.a5 ?_))|((with_reducible refine gH ?_);((with_reducible refine NH.mk ?s ?_);case s=>(and_intros<;>first|with_reducible rfl|((with_reducible refine gOnes ?_);rfl)|((with_reducible refine gLen ?_);rfl)|omega)))|((with_reducible refine gC ?_);((with_reducible refine NCall.isF 54 ?_);refine NCall.subw [0] _ _ (cp) rfl (by decide) rfl ?_; rintro _ _ ⟨F1, pu1, hle1, hpu1, rfl, rfl⟩; refine ⟨Nat.le_of_ble_eq_true rfl, _, rfl, ?_⟩)))<;>(conv=>whnf))|((with_reducible refine gX ?_);(first|(with_reducible first|refine z3 ?_|refine z4 ?_|refine z5 ?_)|((with_reducible refine z29 ?_);intro A B hA hB;(conv=>whnf))))|(with_reducible first|refine z1 ?_|refine z2 ?_)|((with_reducible refine gF ?_);((refine z33 rfl ?_);intro K hK;(conv=>whnf)))|((intro _;skip)<;>(conv=>whnf))))
  all_goals
    have hpok1 := hpu1.ok
    refine st_auto (α := Heap × Value × List Po.L) (fun (G, w, ps) => F1.le G ∧ ps.map (·.x) = (l.take ps.length).map (Po.spec sw) ∧ ps.length ≤ l.length ∧ ∀ p ∈ ps, Po.At G p.x p.pu p.u) (fun (G, w, ps) => [.keep, .keep, .keep, .keep, .keep, .keep, .keep, .drop, .keep, .keep, .keep, .keep, .keep, .keep, .keep, .keep, .keep, .keep, .keep, .keep, .keep, .keep, .keep, .keep, .keep, .keep, .keep, .keep, .keep, .keep, .keep, .set (.int .i64 ps.length), .drop, .drop, .drop, .drop, .drop, .drop, .drop, .drop, .drop, .drop, .drop, .drop, .keep, .keep, .keep, .keep, .keep, .keep, .keep, .keep, .keep, .keep, .keep, .keep, .keep, .keep, .keep, .keep, .keep, .keep])
      (fun (G, w, ps) => [.set (hpB G), .keep, .keep, .cells [.int .i64 5, .int .i64 qk, .int .i64 qf, .int .i64 qv, .hs pu1 ql.length, .int .i64 f, .int .i64 v, .sl 4 w ps.length], .set ⟨addrOf w, Po.psC ps, .row w 41 8 ps.length⟩]) (fun (G, w, ps) => l.length - ps.length) (F1, .slice .none 0 0, []) ⟨F1.le_refl, rfl, Nat.zero_le _, fun p hp => by simp at hp⟩ ?_ ((MemFits.nilRow _ 41 8).trans (MemFits.congr rfl)) ?_
    · repeat (first|exact FitsSl.nil|refine FitsSl.any ?_|refine FitsSl.cons (Fit1.int (by first | rfl | omega)) ?_|refine FitsSl.cons (Fit1.bool rfl) ?_|refine FitsSl.cons (Fit1.same (by intro h; cases h) (by with_reducible rfl)) ?_)
    (intro ⟨G, w, ps⟩ ⟨hle, hmap, hlen, hall⟩; intro K hK; (conv=>whnf); refine hK _ _ ?_; clear hK K)
    dsimp only
    generalize hk : ps.length = i at *
    by_cases hlt : i < l.length
    · have hx : l[i]? = some l[i] := List.getElem?_eq_getElem hlt
      obtain ⟨pA, pcap, A, cap, hA, c0, c1, c2, c3, c4, c5, c6, c7⟩ := (Po.Row.mono (hle1.trans hle) hu).get hx
      have hAo := hA.l.ok
      have hAp := hA.p.ok
      have hmem := List.mem_of_getElem? hx
      have c := ih G _ hmem _ _ hA
      have hnx : (l.take (i + 1)).map (Po.spec sw) = (l.take i).map (Po.spec sw) ++ [Po.spec sw l[i]] := by rw [List.take_add_one, hx, List.map_append]; rfl
      clear ih
      generalize Po.spec sw l[i] = z at *
      generalize l[i] = y at *
      have hpl := Po.psC_len ps
      have hpn := Po.psC_next ps
      generalize hpc : Po.psC ps = pc at *
      obtain ⟨yk, ⟨ypk, ypf, ypv, ypl⟩, yf, yv, yl⟩ := y
      obtain ⟨zk, ⟨zpk, zpf, zpv, zpl⟩, zf, zv, zl⟩ := z
      simp only [Po.Lays, Po.cs, Po.T.k, Po.T.p, Po.T.f, Po.T.v, Po.T.l, Pd.T.k, Pd.T.f, Pd.T.v, Pd.T.l] at c c0 c1 c2 c3 c4 c5 c6 c7 hAo hAp
      (repeat' (first|(with_reducible first|(refine hK _ _ ?_;clear hK K)|(refine hA ?_;clear hA hB A B)|(refine hK _ ?_;clear hK K))|((with_reducible refine gO ?_);(first|((with_reducible refine z25 ?_);intro K hK;(conv=>whnf))|(with_reducible refine z0 ?_)))|((first|((with_reducible refine gV ?_);(((with_reducible refine NV.i64 ?s ?_);case s=>omega)))|((with_reducible refine gI ?_);(((with_reducible refine NIf.decY ?s ?_);case s=>omega)))|((with_reducible refine gN ?_);(with_reducible first|refine NN.cast ?_|refine NN.a5 ?_|refine NN.keep ?_))|((with_reducible refine gH ?_);((with_reducible refine NH.mk ?s ?_);case s=>(and_intros<;>first|with_reducible rfl|((with_reducible refine gOnes ?_);rfl)|((with_reducible refine gLen ?_);rfl)|omega)))|((with_reducible refine gC ?_);((with_reducible refine NCall.isF 24 ?_);refine NCall.subw [0] _ _ (c) rfl (by decide) rfl ?_; rintro _ _ ⟨G', pw', w', hle2, hrow, rfl, rfl⟩; refine ⟨Nat.le_of_ble_eq_true rfl, _, rfl, ?_⟩))|(with_reducible refine NLd.of (by with_reducible assumption) ?_))<;>(conv=>whnf))|((with_reducible refine gNO ?_);(first|(refine z36 rfl (by kernel_rfl) ?_; intro K hK; (conv=>whnf))|(refine z38 rfl (by kernel_rfl) ?_)|(refine z39 rfl rfl (by kernel_rfl) (by intro h; cases h) ?_)))|((with_reducible refine gNE ?_);(first|(refine z40 ?_ ?_; (intro K hK; (conv=>whnf)))|exact z42))|((with_reducible refine gX ?_);(first|(refine z35 (by kernel_rfl) _ rfl ?_)|(with_reducible first|refine z3 ?_|refine z4 ?_|refine z5 ?_|refine z6 ?_)|((with_reducible refine z29 ?_);intro A B hA hB;(conv=>whnf))))|(with_reducible first|refine z1 ?_|refine z2 ?_|refine z9 ?_)|((intro _;skip)<;>(conv=>whnf))))
      all_goals
        rename_i v9
        refine st_round (G', v9, ps ++ [⟨.mk zk (.mk zpk zpf zpv zpl) zf zv zl, pw', w'⟩]) ⟨hle.trans hle2, by rw [List.map_append, hmap, List.length_append, hk]; exact hnx.symm, by rw [List.length_append, hk]; exact hlt, fun x hx => ?_⟩ (by rw [List.length_append, hk]; show l.length - (i + 1) < l.length - i; omega) ?_ (MemFits.pre 5 ?_)
        · rcases List.mem_append.1 hx with hx | hx
          · exact Po.At.mono hle2 (hall x hx)
          · rw [List.mem_singleton.1 hx]; exact hrow
        · simp only [List.length_append, hk]
          repeat (first|exact FitsSl.nil|refine FitsSl.any ?_|refine FitsSl.cons (Fit1.int (by first | rfl | omega)) ?_|refine FitsSl.cons (Fit1.bool rfl) ?_|refine FitsSl.cons (Fit1.same (by intro h; cases h) (by with_reducible rfl)) ?_)
        · simp only [autoM, List.take, List.length_append, hk, hpn]
          rw [show i + [(⟨.mk zk (.mk zpk zpf zpv zpl) zf zv zl, pw', w'⟩ : Po.L)].length = i + 1 from rfl]
          rfl
    · have hkl : i = l.length := by omega
      subst hkl
      rw [List.take_length] at hmap
      clear ih cp
      by_cases hq2 : qk ≤ 2
      · have hX1 := hX1 rfl hq2
        rw [hX1]
        clear hX1 hX2
        have hl2 := h5 rfl
        match l, hl2, ps, hk, hmap with
        | [a, b], _, [x, y], _, hmap =>
          have hax : x.x = Po.spec sw a ∧ y.x = Po.spec sw b := by simpa using hmap
          by_cases hq1 : qk = 1
          · subst hq1
            have hq : [x, y][0]? = some x := rfl
            (repeat' (first|(with_reducible first|(refine hK _ _ ?_;clear hK K)|(refine hA ?_;clear hA hB A B)|(refine hB ?_;clear hA hB A B)|(refine hK _ ?_;clear hK K))|((with_reducible refine gO ?_);(first|((with_reducible first|refine z25 ?_|refine z26 ?_);intro K hK;(conv=>whnf))|(with_reducible refine z0 ?_)))|((first|((with_reducible refine gV ?_);(((with_reducible refine NV.i64 ?s ?_);case s=>omega)))|((with_reducible refine gI ?_);(first|((with_reducible refine NIf.decY ?s ?_);case s=>first|with_reducible rfl|assumption)|((with_reducible refine NIf.decN ?s ?_);case s=>omega)))|((with_reducible refine gN ?_);(with_reducible first|refine NN.a5 ?_|refine NN.a6 ?_|refine NN.keep ?_))|((with_reducible refine gH ?_);((with_reducible refine NH.mk ?s ?_);case s=>(and_intros<;>first|with_reducible rfl|((with_reducible refine gOnes ?_);rfl)|((with_reducible refine gLen ?_);rfl)|omega))))<;>(conv=>whnf))|((with_reducible refine gX ?_);(first|(with_reducible first|refine z3 ?_|refine z4 ?_|refine z7 ?_|refine z8 ?_)|((with_reducible refine z29 ?_);intro A B hA hB;(conv=>whnf))))|(with_reducible first|refine z1 ?_|refine z2 ?_|refine z10 ?_|refine z11 ?_|refine z12 ?_|refine z19 ?_)|((with_reducible refine gR ?_);((refine z31 rfl ?_);intro K hK;(conv=>whnf)))))
            all_goals exact .inr ⟨G, x.pu, x.u, hle1.trans hle, by show Po.At G (Po.spec sw a) x.pu x.u; rw [← hax.1]; exact hall x (by simp), by show _ = (AV.agg (Po.cs (Po.spec sw a) x.pu x.u)).den; rw [← hax.1]; rfl, MemFits.pre 1 rfl⟩
          · obtain rfl : qk = 2 := by omega
            have hq : [x, y][1]? = some y := rfl
            (repeat' (first|(with_reducible first|(refine hK _ _ ?_;clear hK K)|(refine hA ?_;clear hA hB A B)|(refine hB ?_;clear hA hB A B)|(refine hK _ ?_;clear hK K))|((with_reducible refine gO ?_);(first|((with_reducible first|refine z25 ?_|refine z26 ?_);intro K hK;(conv=>whnf))|(with_reducible refine z0 ?_)))|((first|((with_reducible refine gV ?_);(((with_reducible refine NV.i64 ?s ?_);case s=>omega)))|((with_reducible refine gI ?_);(first|((with_reducible refine NIf.decY ?s ?_);case s=>first|with_reducible rfl|assumption)|((with_reducible refine NIf.decN ?s ?_);case s=>omega)))|((with_reducible refine gN ?_);(with_reducible first|refine NN.a5 ?_|refine NN.a6 ?_|refine NN.keep ?_))|((with_reducible refine gH ?_);((with_reducible refine NH.mk ?s ?_);case s=>(and_intros<;>first|with_reducible rfl|((with_reducible refine gOnes ?_);rfl)|((with_reducible refine gLen ?_);rfl)|omega))))<;>(conv=>whnf))|((with_reducible refine gX ?_);(first|(with_reducible first|refine z3 ?_|refine z4 ?_|refine z7 ?_|refine z8 ?_)|((with_reducible refine z29 ?_);intro A B hA hB;(conv=>whnf))))|(with_reducible first|refine z1 ?_|refine z2 ?_|refine z10 ?_|refine z11 ?_|refine z12 ?_|refine z19 ?_)|((with_reducible refine gR ?_);((refine z31 rfl ?_);intro K hK;(conv=>whnf)))))
            all_goals exact .inr ⟨G, y.pu, y.u, hle1.trans hle, by show Po.At G (Po.spec sw b) y.pu y.u; rw [← hax.2]; exact hall y (by simp), by show _ = (AV.agg (Po.cs (Po.spec sw b) y.pu y.u)).den; rw [← hax.2]; rfl, MemFits.pre 1 rfl⟩
      · have hX2 := hX2 (fun h => hq2 h.2)
        rw [hX2]
        clear hX1 hX2
        (repeat' (first|(with_reducible first|(refine hK _ _ ?_;clear hK K)|(refine hB ?_;clear hA hB A B)|(refine hK _ ?_;clear hK K))|((with_reducible refine gO ?_);(first|((with_reducible first|refine z25 ?_|refine z26 ?_);intro K hK;(conv=>whnf))|(with_reducible refine z0 ?_)))|((first|((with_reducible refine gI ?_);(first|((with_reducible refine NIf.decY ?s ?_);case s=>with_reducible rfl)|((with_reducible refine NIf.decN ?s ?_);case s=>first|assumption|omega)))|((with_reducible refine gN ?_);(with_reducible first|refine NN.a5 ?_|refine NN.a6 ?_))|((with_reducible refine gH ?_);((with_reducible refine NH.mk ?s ?_);case s=>(and_intros<;>first|with_reducible rfl|((with_reducible refine gOnes ?_);rfl)|((with_reducible refine gLen ?_);rfl)))))<;>(conv=>whnf))|((with_reducible refine gX ?_);(first|(with_reducible first|refine z3 ?_|refine z4 ?_|refine z6 ?_|refine z7 ?_|refine z8 ?_)|((with_reducible refine z29 ?_);intro A B hA hB;(conv=>whnf))))|(with_reducible first|refine z1 ?_|refine z2 ?_|refine z10 ?_|refine z11 ?_|refine z19 ?_)|((with_reducible refine gR ?_);((refine z31 rfl ?_);intro K hK;(conv=>whnf)))))
        all_goals exact .inl ⟨G, pu1, w, ps, hle1.trans hle, hmap, hall, Pd.Row.mono hle hpu1, by simp only [Po.cs, Po.T.k, Po.T.p, Po.T.f, Po.T.v, Po.T.l, Pd.T.k, Pd.T.f, Pd.T.v, Pd.T.l, List.length_map]; rfl, by rw [hk]; exact MemFits.pick [0, 4] (by decide) rfl⟩
theorem at27_c : ∀ (n : Nat) (F : Heap) (x : Po.T) (pu u : Value) (sw : Int), Po.tot x ≤ n → Po.tot x ≤ 1000000000000 → Po.fits x = true → Po.At F x pu u →
    NCall Tryz.prog 24 [.agg (Po.cs x pu u), .int .i64 sw] [hpB F] fun r m => Po.Lays F (Po.spec sw x) r m
  | 0, F, x, pu, u, sw, hn, _, _, _ => absurd (Po.tot_pos x) (by omega)
  | n + 1, F, ⟨k, p, f, v, l⟩, pu, u, sw, hn, hs, hf, hx => by
    refine Po.out_know (t := 41) ?_
    have hu : Po.Row F u l := hx.l
    have hpu : Pd.Row F pu p.l := hx.p
    have e2 := Po.tot_mk k p f v l
    obtain ⟨hsh, hfl⟩ := Po.fits_iff.1 hf
    have ih : ∀ G, ∀ y ∈ l, ∀ pw w, Po.At G y pw w → NCall Tryz.prog 24 [.agg (Po.cs y pw w), .int .i64 sw] [hpB G] fun r m => Po.Lays G (Po.spec sw y) r m := fun G y hy pw w hw => at27_c n G y pw w sw (by have := Po.tot_lt (k := k) (q := p) (f := f) (v := v) hy; omega) (by have := Po.tot_lt (k := k) (q := p) (f := f) (v := v) hy; omega) (hfl y hy) hw
    have hl : l.length ≤ 8 := by omega
    have h5 : k = 5 → l.length = 2 := fun h => by omega
    have hpf : (k = 1 ∨ k = 5) → Pd.fits p = true := fun h => by
      have : Pd.right p = true := by
        rcases hsh with h1 | h1 | h1 | h1
        · exact h1.2.1
        · omega
        · omega
        · exact h1.2.1
      exact Po.right_fits this
    by_cases hk1 : k = 1
    · exact at27_in1 F k f v p l pu u sw hk1 (by omega) hl h5 hpf hu hpu ih
    by_cases hk5 : k = 5
    · exact at27_in5 F k f v p l pu u sw hk5 (by omega) hl h5 hpf hu hpu ih
    · exact at27_out F k f v p l pu u sw (by omega) (by omega) hl h5 hpf hu hpu ih
end Go.Proofs.YtaolcaggdddkpaaGreat
namespace Go.Proofs.YtaolcaggdddkpaaGreat
open Go.Sx
set_option maxRecDepth 20000
set_option linter.unusedSimpArgs false
set_option linter.unusedVariables false
set_option maxHeartbeats 4000000
set_option linter.unusedVariables false
namespace Po
def cellsN (x : T) : Nat → Nat
  | 0 => 1
  | i + 1 => min (cellsN x i * ((values i x).length + 1)) 100000
def cells (x : T) : Nat := cellsN x 5
theorem cellsN_le (x : T) : ∀ i, cellsN x i ≤ 100000
  | 0 => by simp [cellsN]
  | i + 1 => by rw [cellsN]; omega
end Po
section
variable (F : Heap)
end
theorem cells27_c (F : Heap) (x : Po.T) (pu u : Value) (hs : Po.tot x ≤ 2932031007402) (hx : Po.At F x pu u) : NCall Tryz.prog 25 [.agg (Po.cs x pu u)] [hpB F] fun r m => r = .int .i64 (Po.cells x : Nat) ∧ m = [hpB F] := by
  refine NCall.fits (K := fun r m => r = .int .i64 (Po.cells x : Nat) ∧ ∃ F', F.le F' ∧ MemFits m [hpB F']) ?_ fun r m' ⟨h1, F', h2, h3⟩ => ⟨r, _, rfl, h3.trans (MemFits.less h2 []), h1, rfl⟩
  have hok := hx.l.ok
  have hpok := hx.p.ok
  have cv := fun (G : Heap) (hG : F.le G) (f : Nat) (hf : f ≤ 5) => Values27_c G x pu u f (by omega) hs (Po.At.mono hG hx)
  have hcl := Po.cellsN_le x
  have hvl := fun f => Po.values_len f x
  unfold Po.cells
  have hnx : ∀ i, Po.cellsN x (i + 1) = min (Po.cellsN x i * ((Po.values i x).length + 1)) 100000 := fun i => by rw [Po.cellsN]
  have hbig : ∀ i, Po.cellsN x i * ((Po.values i x).length + 1) ≤ 293203100740300000 := fun i => by
    have h1 := hcl i
    have h2 := hvl i
    calc _ ≤ 100000 * (2932031007402 + 1) := Nat.mul_le_mul h1 (by omega)
      _ ≤ _ := by decide
  have h0 : Po.cellsN x 0 = 1 := rfl
  have hlv : ∀ f, (Po.values f x).length ≤ 2932031007402 := fun f => Nat.le_trans (hvl f) hs
  clear hx hs hvl
  generalize hC : Po.cellsN x = C at *
  obtain ⟨k, ⟨pk, pf, pv, pl⟩, f, v0, l⟩ := x
  simp only [Srt.Lays, Po.cs, Po.T.k, Po.T.p, Po.T.f, Po.T.v, Po.T.l, Pd.T.k, Pd.T.f, Pd.T.v, Pd.T.l] at *
  refine ncall_of Tryz.func25 rfl (by decide) ?_
  (repeat' (first|(with_reducible first|(refine hK _ _ ?_;clear hK K)|(refine hK _ ?_;clear hK K))|((with_reducible refine gO ?_);(first|((with_reducible refine z25 ?_);intro K hK;(conv=>whnf))|(with_reducible refine z0 ?_)))|((with_reducible refine gX ?_);((with_reducible first|refine z3 ?_|refine z4 ?_|refine z5 ?_)))|(with_reducible first|refine z1 ?_|refine z2 ?_)|((with_reducible refine gF ?_);((refine z33 rfl ?_);intro K hK;(conv=>whnf)))|((intro _;skip)<;>(conv=>whnf))))
  refine st_auto (α := Heap × Nat) (fun (G, i) => F.le G ∧ i ≤ 5) (fun (G, i) => [.keep, .keep, .keep, .set (.int .i64 (C i : Nat)), .set (.int .i64 i), .drop, .drop, .drop, .drop, .drop, .drop, .drop, .drop, .drop, .drop, .drop, .drop, .keep]) (fun (G, i) => [.set (hpB G)]) (fun (G, i) => 5 - i) (F, 0) ⟨F.le_refl, by decide⟩ ?_ (MemFits.eq rfl) ?_
  · repeat (first|exact FitsSl.nil|refine FitsSl.any ?_|refine FitsSl.cons (Fit1.int (by  simp [h0])) ?_|refine FitsSl.cons (Fit1.same (by intro h; cases h) (by with_reducible rfl)) ?_)
  (intro ⟨G, i⟩ ⟨hle, hi⟩; intro K hK; (conv=>whnf); refine hK _ _ ?_; clear hK K)
  dsimp only
  by_cases hlt : i < 5
  · have c := (cv G hle i (by omega)).mono (K' := fun r m => ∃ F' v, G.le F' ∧ SlOk v (Po.values i (.mk k (.mk pk pf pv pl) f v0 l)).length ∧ r = .hs v (Po.values i (.mk k (.mk pk pf pv pl) f v0 l)).length ∧ m = [hpB F']) fun r m ⟨F', v, h1, h2, h3, h4⟩ => ⟨F', v, h1, h2.ok, h3, h4⟩
    have hn := hnx i
    have hb := hbig i
    have hl := hlv i
    have hc := hcl i
    clear cv hnx hbig hlv hcl
    generalize Po.values i (.mk k (.mk pk pf pv pl) f v0 l) = L at *
    generalize C i = c0 at *
    have hprod : ((c0 : Int) * ((L.length : Int) + 1)) = ((c0 * (L.length + 1) : Nat) : Int) := by push_cast; rfl
    (repeat' (first|(with_reducible first|(refine hK _ _ ?_;clear hK K)|(refine hA ?_;clear hA hB A B))|((with_reducible refine gO ?_);(first|((with_reducible refine z25 ?_);intro K hK;(conv=>whnf))|(with_reducible refine z0 ?_)))|((first|((with_reducible refine gV ?_);(first|((with_reducible refine NV.i64 ?s ?_);case s=>omega)|(with_reducible refine NV.keep ?_)))|((with_reducible refine gI ?_);(((with_reducible refine NIf.decY ?s ?_);case s=>omega)))|((with_reducible refine gH ?_);((with_reducible refine NH.mk ?s ?_);case s=>(and_intros<;>first|with_reducible rfl|omega)))|((with_reducible refine gC ?_);((with_reducible refine NCall.isF 26 ?_);refine NCall.subw [0] _ _ (c) rfl (by decide) rfl ?_; rintro _ _ ⟨F', w', hle2, hok2, rfl, rfl⟩; refine ⟨Nat.le_of_ble_eq_true rfl, _, rfl, ?_⟩)))<;>(conv=>whnf))|((with_reducible refine gX ?_);(first|(with_reducible first|refine z3 ?_|refine z4 ?_|refine z5 ?_|refine z6 ?_)|((with_reducible refine z29 ?_);intro A B hA hB;(conv=>whnf))))|(with_reducible first|refine z1 ?_|refine z2 ?_|refine z9 ?_)))
    refine st_round (F', i + 1) ⟨hle.trans hle2, hlt⟩ (show 5 - (i + 1) < 5 - i by omega) ?_ (MemFits.pre 2 rfl)
    repeat (first|exact FitsSl.nil|refine FitsSl.any ?_|refine FitsSl.cons (Fit1.int (by  (simp only [hn]; omega))) ?_|refine FitsSl.cons (Fit1.int (by first | rfl | omega)) ?_|refine FitsSl.cons (Fit1.same (by intro h; cases h) (by with_reducible rfl)) ?_)
  · obtain rfl : i = 5 := by omega
    (repeat' (first|(with_reducible first|(refine hK _ _ ?_;clear hK K)|(refine hB ?_;clear hA hB A B)|(refine hK _ ?_;clear hK K))|((with_reducible refine gO ?_);(first|((with_reducible refine z25 ?_);intro K hK;(conv=>whnf))|(with_reducible refine z0 ?_)))|((((with_reducible refine gI ?_);(((with_reducible refine NIf.decN ?s ?_);case s=>omega))))<;>(conv=>whnf))|((with_reducible refine gX ?_);(first|(with_reducible first|refine z3 ?_|refine z4 ?_|refine z7 ?_|refine z8 ?_)|((with_reducible refine z29 ?_);intro A B hA hB;(conv=>whnf))))|(with_reducible first|refine z1 ?_|refine z2 ?_|refine z10 ?_|refine z11 ?_|refine z19 ?_)|((with_reducible refine gR ?_);((refine z31 rfl ?_);intro K hK;(conv=>whnf)))))
    all_goals exact ⟨rfl, G, hle, MemFits.pre 1 rfl⟩
end Go.Proofs.YtaolcaggdddkpaaGreat
