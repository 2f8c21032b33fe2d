/-
  What comes of a packet, laid into a map: by the program, for any policy.
-/
import Derived.Test.YtngodakgbldlpaaGreatDoorTJ11
namespace Go.Proofs.YtngodakgbldlpaaGreatDoor
open Go.Sx
set_option maxRecDepth 20000
set_option linter.unusedSimpArgs false
set_option linter.unusedVariables false
set_option maxHeartbeats 4000000
set_option linter.unusedVariables false
theorem run27_2 (F : Heap) (f v : Int) (pu u : Value) (sw : Int) (hx : Po.At F (.mk 2 Po.noneP f v []) pu u) (s : Po.S) (b : Nat) (L : List Po.S) (hL : L.Nodup) :
    NCall Tryz.prog 35 [.raw (.map (some b)), .agg (Po.cs (.mk 2 Po.noneP f v []) pu u), .int .i64 sw, .agg s.av] [hpB F, mapB b (Po.sM L)] fun r m => Po.doneR F b L (fun t => t ∈ Po.runs sw (.mk 2 Po.noneP f v []) s) r m := by
  refine NCall.fits (K := fun r m => ∃ L' : List Po.S, L'.Nodup ∧ (∀ t, t ∈ L' ↔ t ∈ L ∨ t ∈ Po.runs sw (.mk 2 Po.noneP f v []) s) ∧ r = .tup [] ∧ MemFits m [hpB F, mapB b (Po.sM L')]) ?_ fun r m' ⟨L', h1, h2, h3, h4⟩ => ⟨r, _, rfl, h4, L', h1, h2, h3, rfl⟩
  have hok := hx.l.ok
  have hpok := hx.p.ok
  have cs := set27_c 2 f v 0 0 0 (.hs pu 0) (.hs u 0) s
  have hr := Po.runs_mk sw 2 Po.noneP f v [] s
  rw [if_neg (by decide), if_pos rfl] at hr
  have hu : Tryz.prog.underlying 65 = some (.map 63 71) := by kernel_rfl
  generalize Po.put f v s = z at *
  have hadd := Po.add_nodup hL z
  have hmem := fun t => Po.mem_add (L := L) (s := z) (t := t)
  rw [hr]
  clear hr hx
  rw [po_cs]
  unfold Po.noneP
  have hkey : (AV.agg z.av).den = z.key := rfl
  obtain ⟨a0, a, b', c, d⟩ := s
  simp only [pd_cs, Pd.T.k, Pd.T.f, Pd.T.v, Pd.T.l, Po.S.av, List.length_nil] at *
  refine ncall_of Tryz.func35 rfl (by decide) ?_
  repeat' first|((try intro K hK);(with_reducible refine gC ?_);refine cP cs ?_)|((try intro K hK);((with_reducible refine gMap ?_); refine sent_upd (j := 1) hu rfl hkey rfl ?_; conv=>whnf))|(refine sxZ ?_;try clear hK K)|refine sxW ?_ ?_<;>intro _|(intro K hK _;(conv=>whnf))|(intro _;(conv=>whnf))
  all_goals exact ⟨_, hadd, fun t => by rw [hmem]; simp, rfl, MemFits.pre 2 rfl⟩
theorem run27_4 (F : Heap) (l : List Po.T) (pu u : Value) (sw : Int) (hln : l.length ≤ 1000) (hx : Po.At F (.mk 4 Po.noneP 0 0 l) pu u) (s : Po.S) (b : Nat) (L : List Po.S) (hL : L.Nodup)
    (ih : ∀ y ∈ l, ∀ pw w, Po.At F y pw w → ∀ (s : Po.S) (b : Nat) (L : List Po.S), L.Nodup → NCall Tryz.prog 35 [.raw (.map (some b)), .agg (Po.cs y pw w), .int .i64 sw, .agg s.av] [hpB F, mapB b (Po.sM L)] fun r m => Po.doneR F b L (fun t => t ∈ Po.runs sw y s) r m) :
    NCall Tryz.prog 35 [.raw (.map (some b)), .agg (Po.cs (.mk 4 Po.noneP 0 0 l) pu u), .int .i64 sw, .agg s.av] [hpB F, mapB b (Po.sM L)] fun r m => Po.doneR F b L (fun t => t ∈ Po.runs sw (.mk 4 Po.noneP 0 0 l) s) r m := by
  refine NCall.fits (K := fun r m => ∃ L' : List Po.S, L'.Nodup ∧ (∀ t, t ∈ L' ↔ t ∈ L ∨ t ∈ Po.runs sw (.mk 4 Po.noneP 0 0 l) s) ∧ r = .tup [] ∧ MemFits m [hpB F, mapB b (Po.sM L')]) ?_ fun r m' ⟨L', h1, h2, h3, h4⟩ => ⟨r, _, rfl, h4, L', h1, h2, h3, rfl⟩
  have hrow : Po.Row F u l := hx.l
  have hok := hrow.ok
  have hpok : SlOk pu 0 := hx.p.ok
  have hr := Po.runs_mk sw 4 Po.noneP 0 0 l s
  rw [if_neg (by decide), if_neg (by decide), if_neg (by decide), if_pos rfl] at hr
  have hmr : ∀ t, t ∈ Po.runs sw (.mk 4 Po.noneP 0 0 l) s ↔ ∃ y ∈ l, t ∈ Po.runs sw y s := fun t => by rw [hr]; exact (Po.mem_runsU sw s t l []).trans (by simp)
  simp only [hmr]
  clear hr hmr hx
  rw [po_cs]
  unfold Po.noneP
  have ih : ∀ y ∈ l, ∀ pw w, Po.At F y pw w → ∀ (b : Nat) (L : List Po.S), L.Nodup → NCall Tryz.prog 35 [.raw (.map (some b)), .agg (Po.cs y pw w), .int .i64 sw, .agg s.av] [hpB F, mapB b (Po.sM L)] fun r m => ∃ L' : List Po.S, L'.Nodup ∧ (∀ t, t ∈ L' ↔ t ∈ L ∨ t ∈ Po.runs sw y s) ∧ r = .tup [] ∧ m = [hpB F, mapB b (Po.sM L')] := fun y hy pw w hA b L hL => ih y hy pw w hA s b L hL
  obtain ⟨a0, a, b', c, d⟩ := s
  generalize Po.runs sw = R at *
  simp only [pd_cs, Pd.T.k, Pd.T.f, Pd.T.v, Pd.T.l, Po.S.av, List.length_nil] at *
  refine ncall_of Tryz.func35 rfl (by decide) ?_
  repeat' first|(refine sxZ ?_;try clear hK K)|refine sxW ?_ ?_<;>intro _|(intro K hK _;(conv=>whnf))
  refine st_auto (α := Nat × List Po.S) (fun (i, L') => i ≤ l.length ∧ L'.Nodup ∧ ∀ t, t ∈ L' ↔ t ∈ L ∨ ∃ y ∈ l.take i, t ∈ R y ⟨a0, a, b', c, d⟩) (fun (i, L') => [.keep, .keep, .keep, .keep, .keep, .keep, .keep, .keep, .keep, .drop, .keep, .keep, .keep, .keep, .keep, .keep, .keep, .keep, .keep, .keep, .keep, .keep, .keep, .keep, .keep, .keep, .keep, .keep, .keep, .keep, .keep, .keep, .keep, .keep, .keep, .keep, .keep, .keep, .keep, .keep, .keep, .keep, .keep, .set (.int .i64 i), .drop, .drop, .drop, .drop, .drop, .drop, .drop, .drop, .drop, .keep, .keep, .keep, .keep, .keep, .keep, .keep, .keep, .keep, .keep, .keep, .keep, .keep, .keep, .keep, .keep, .keep, .keep, .keep, .keep, .keep, .keep, .keep, .keep, .keep, .keep, .keep, .keep, .keep, .keep, .keep, .keep, .keep, .keep, .keep, .keep, .keep, .keep, .keep, .keep, .keep, .keep, .keep, .keep, .keep, .keep, .keep, .keep, .keep]) (fun (i, L') => [.keep, .set (mapB b (Po.sM L'))]) (fun (i, L') => l.length - i) (0, L) ⟨Nat.zero_le _, hL, fun t => by simp⟩ ?_ ?_ ?_
  · exact fitsGo
  · exact MemFits.eq rfl
  (intro ⟨i, L'⟩ ⟨hi, hn, hm⟩; intro K hK; (conv=>whnf); refine hK _ _ ?_; clear hK K)
  dsimp only
  by_cases hlt : i < l.length
  · have hx : l[i]? = some l[i] := List.getElem?_eq_getElem hlt
    obtain ⟨pA, pcap, A, cap, hA, c0, c1, c2, c3, c4, c5, c6, c7⟩ := hrow.get hx
    have hAo := hA.l.ok
    have hAp := hA.p.ok
    have cc := ih _ (List.mem_of_getElem? hx) _ _ hA b L' hn
    have hnx : l.take (i + 1) = l.take i ++ [l[i]] := by rw [List.take_add_one, hx]; rfl
    clear ih
    generalize l[i] = y at *
    have hstep : ∀ L2 : List Po.S, (∀ t, t ∈ L2 ↔ t ∈ L' ∨ t ∈ R y ⟨a0, a, b', c, d⟩) → ∀ t, t ∈ L2 ↔ t ∈ L ∨ ∃ y ∈ l.take (i + 1), t ∈ R y ⟨a0, a, b', c, d⟩ := fun L2 h2 t => by
      rw [h2, hm, hnx]
      simp only [List.mem_append, List.mem_singleton, or_and_right, exists_or, exists_eq_left, or_assoc]
    obtain ⟨yk, ⟨ypk, ypf, ypv, ypl⟩, yf, yv, yl⟩ := y
    simp only [Po.cs, Po.T.k, Po.T.p, Po.T.f, Po.T.v, Po.T.l, Pd.T.k, Pd.T.f, Pd.T.v, Pd.T.l] at cc c0 c1 c2 c3 c4 c5 c6 c7 hAo hAp
    repeat' first|(intro K hK;(with_reducible refine gC ?_);(refine cN [0, 1] cc ?_;rintro _ _ ⟨L2, hn2, hm2, rfl, rfl⟩;refine cR ?_))|(refine sxZ ?_;try clear hK K)|refine sxW ?_ ?_<;>intro _|(intro K hK _;(conv=>whnf))
    all_goals
      refine st_round (i + 1, L2) ⟨hlt, hn2, hstep L2 hm2⟩ (show l.length - (i + 1) < l.length - i by omega) ?_ (MemFits.pre 4 rfl)
      exact fitsGo
  · obtain rfl : i = l.length := by omega
    rw [List.take_length] at hm
    clear ih
    repeat' first|(refine sxZ ?_;try clear hK K)|refine sxW ?_ ?_<;>intro _|(intro K hK _;(conv=>whnf))
    all_goals exact ⟨L', hn, hm, rfl, MemFits.pre 2 rfl⟩
theorem run27_5 (F : Heap) (p : Pd.T) (x y : Po.T) (pu u : Value) (sw : Int) (hs : Pd.size p ≤ 4611686018427387904) (hx : Po.At F (.mk 5 p 0 0 [x, y]) pu u) (s : Po.S) (b : Nat) (L : List Po.S) (hL : L.Nodup)
    (ih : ∀ z ∈ [x, y], ∀ pw w, Po.At F z pw w → ∀ (s : Po.S) (b : Nat) (L : List Po.S), L.Nodup → NCall Tryz.prog 35 [.raw (.map (some b)), .agg (Po.cs z pw w), .int .i64 sw, .agg s.av] [hpB F, mapB b (Po.sM L)] fun r m => Po.doneR F b L (fun t => t ∈ Po.runs sw z s) r m) :
    NCall Tryz.prog 35 [.raw (.map (some b)), .agg (Po.cs (.mk 5 p 0 0 [x, y]) pu u), .int .i64 sw, .agg s.av] [hpB F, mapB b (Po.sM L)] fun r m => Po.doneR F b L (fun t => t ∈ Po.runs sw (.mk 5 p 0 0 [x, y]) s) r m := by
  refine NCall.fits (K := fun r m => ∃ L' : List Po.S, L'.Nodup ∧ (∀ t, t ∈ L' ↔ t ∈ L ∨ t ∈ Po.runs sw (.mk 5 p 0 0 [x, y]) s) ∧ r = .tup [] ∧ MemFits m [hpB F, mapB b (Po.sM L')]) ?_ fun r m' ⟨L', h1, h2, h3, h4⟩ => ⟨r, _, rfl, h4, L', h1, h2, h3, rfl⟩
  have hrow : Po.Row F u [x, y] := hx.l
  have hok := hrow.ok
  have hpok := hx.p.ok
  have ch := Hits26_c F (s.at_ sw) p pu hs hx.p
  have hr := Po.runs_mk sw 5 p 0 0 [x, y] s
  rw [if_neg (by decide), if_neg (by decide), if_neg (by decide), if_neg (by decide), if_pos rfl] at hr
  rw [hr]
  clear hr hx
  have ha : Po.runsA sw [x, y] s = Po.runs sw x s := by rw [Po.runsA]
  have hb2 : Po.runsB sw [x, y] s = Po.runs sw y s := by rw [Po.runsB, Po.runsA]
  rw [ha, hb2]
  clear ha hb2
  rw [po_cs]
  generalize Pd.hits (s.at_ sw) p = hb at *
  obtain ⟨pk, pf, pv, pl⟩ := p
  simp only [Po.doneR] at ih
  cases hb with
  | true =>
    obtain ⟨pA, pcap, A, cap, hA, c0, c1, c2, c3, c4, c5, c6, c7⟩ := hrow.get (i := 0) (x := x) rfl
    have hAo := hA.l.ok
    have hAp := hA.p.ok
    have cc := ih x (by simp) _ _ hA s b L hL
    clear ih
    rw [if_pos rfl]
    generalize Po.runs sw x s = R at *
    obtain ⟨yk, ⟨ypk, ypf, ypv, ypl⟩, yf, yv, yl⟩ := x
    obtain ⟨a0, a, b', c, d⟩ := s
    simp only [pd_cs, Po.cs, Po.T.k, Po.T.p, Po.T.f, Po.T.v, Po.T.l, Pd.T.k, Pd.T.f, Pd.T.v, Pd.T.l, Po.S.av, Po.S.at_, Pd.At.pk] at *
    refine ncall_of Tryz.func35 rfl (by decide) ?_
    repeat' first|(intro K hK;(with_reducible refine gC ?_);first|refine cS [0] ch ?_|(refine cN [0, 1] cc ?_;rintro _ _ ⟨L2, hn2, hm2, rfl, rfl⟩;refine cR ?_))|(refine sxZK [1] ?_;try clear hK K)|refine sxW ?_ ?_<;>intro _|refine sxVK ?_ ?_|(intro K hK _;(conv=>whnf))
    all_goals exact ⟨L2, hn2, hm2, rfl, MemFits.pre 2 rfl⟩
  | false =>
    obtain ⟨pA, pcap, A, cap, hA, c0, c1, c2, c3, c4, c5, c6, c7⟩ := hrow.get (i := 1) (x := y) rfl
    have hAo := hA.l.ok
    have hAp := hA.p.ok
    have cc := ih y (by simp) _ _ hA s b L hL
    clear ih
    rw [if_neg (by decide)]
    generalize Po.runs sw y s = R at *
    obtain ⟨yk, ⟨ypk, ypf, ypv, ypl⟩, yf, yv, yl⟩ := y
    obtain ⟨a0, a, b', c, d⟩ := s
    simp only [pd_cs, Po.cs, Po.T.k, Po.T.p, Po.T.f, Po.T.v, Po.T.l, Pd.T.k, Pd.T.f, Pd.T.v, Pd.T.l, Po.S.av, Po.S.at_, Pd.At.pk] at *
    refine ncall_of Tryz.func35 rfl (by decide) ?_
    repeat' first|(intro K hK;(with_reducible refine gC ?_);first|refine cS [0] ch ?_|(refine cN [0, 1] cc ?_;rintro _ _ ⟨L2, hn2, hm2, rfl, rfl⟩;refine cR ?_))|(refine sxZK [1] ?_;try clear hK K)|refine sxW ?_ ?_<;>intro _|refine sxVK ?_ ?_|(intro K hK _;(conv=>whnf))
    all_goals exact ⟨L2, hn2, hm2, rfl, MemFits.pre 2 rfl⟩
end Go.Proofs.YtngodakgbldlpaaGreatDoor


