/-
  What comes of a packet, laid into a map: sequences; all policies.
-/
import Derived.Test.YtngodakgbldlpaaGreatDoorTPo18
namespace Go.Proofs.YtngodakgbldlpaaGreatDoor
open Go.Sx
set_option maxRecDepth 20000
set_option linter.unusedSimpArgs false
set_option linter.unusedVariables false
set_option maxHeartbeats 4000000
set_option linter.unusedVariables false
theorem run27_3 (F : Heap) (l : List Po.T) (pu u : Value) (sw : Int) (hln : l.length ≤ 1000) (hx : Po.At F (.mk 3 Po.noneP 0 0 l) pu u) (s : Po.S) (b : Nat) (L : List Po.S) (hL : L.Nodup)
    (ih : ∀ y ∈ l, ∀ pw w, Po.At F y pw w → ∀ (s : Po.S) (b : Nat) (L : List Po.S), L.Nodup → NCall Tryz.prog 35 [.raw (.map (some b)), .agg (Po.cs y pw w), .int .i64 sw, .agg s.av] [hpB F, mapB b (Po.sM L)] fun r m => Po.doneR F b L (fun t => t ∈ Po.runs sw y s) r m) :
    NCall Tryz.prog 35 [.raw (.map (some b)), .agg (Po.cs (.mk 3 Po.noneP 0 0 l) pu u), .int .i64 sw, .agg s.av] [hpB F, mapB b (Po.sM L)] fun r m => Po.doneR F b L (fun t => t ∈ Po.runs sw (.mk 3 Po.noneP 0 0 l) s) r m := by
  refine NCall.fits (K := fun r m => ∃ L' : List Po.S, L'.Nodup ∧ (∀ t, t ∈ L' ↔ t ∈ L ∨ t ∈ Po.runs sw (.mk 3 Po.noneP 0 0 l) s) ∧ r = .tup [] ∧ MemFits m [hpB F, mapB b (Po.sM L')]) ?_ fun r m' ⟨L', h1, h2, h3, h4⟩ => ⟨r, _, rfl, h4, L', h1, h2, h3, rfl⟩
  have hrow : Po.Row F u l := hx.l
  have hok := hrow.ok
  have hpok : SlOk pu 0 := hx.p.ok
  have hr := Po.runs_mk sw 3 Po.noneP 0 0 l s
  rw [if_neg (by decide), if_neg (by decide), if_pos rfl] at hr
  rw [hr]
  clear hr hx
  have hu : Tryz.prog.underlying 65 = some (.map 63 71) := by kernel_rfl
  have hkey : (AV.agg s.av).den = s.key := rfl
  have ih : ∀ y ∈ l, ∀ pw w, Po.At F y pw w → ∀ (t : Po.S) (b : Nat) (L : List Po.S), L.Nodup → NCall Tryz.prog 35 [.raw (.map (some b)), .agg (Po.cs y pw w), .int .i64 sw, .agg [.int .i64 t.port, .int .i64 t.p0, .int .i64 t.p1, .int .i64 t.p2, .int .i64 t.p3]] [hpB F, mapB b (Po.sM L)] fun r m => ∃ L' : List Po.S, L'.Nodup ∧ (∀ q, q ∈ L' ↔ q ∈ L ∨ q ∈ Po.runs sw y t) ∧ r = .tup [] ∧ m = [hpB F, mapB b (Po.sM L')] := fun y hy pw w hA t b L hL => ih y hy pw w hA t b L hL
  have h0 : Po.runsQ sw (l.take 0) [s] = [s] := by rw [List.take_zero, Po.runsQ]
  have hnxt : ∀ (k : Nat) (h : k < l.length) (q : Po.S), q ∈ Po.runsQ sw (l.take (k + 1)) [s] ↔ ∃ t ∈ Po.runsQ sw (l.take k) [s], q ∈ Po.runs sw l[k] t := fun k h q => by rw [Po.runsQ_take sw h]; exact Po.mem_then sw l[k] q _
  have hend : Po.runsQ sw (l.take l.length) [s] = Po.runsQ sw l [s] := by rw [List.take_length]
  rw [← hend]
  clear hend
  generalize hQ : (fun k => Po.runsQ sw (l.take k) [s]) = Q at *
  have hQ' : ∀ k, Po.runsQ sw (l.take k) [s] = Q k := fun k => by rw [← hQ]
  simp only [hQ'] at h0 hnxt ⊢
  clear hQ hQ'
  have hcopy := fun (b1 : Nat) (N : List Po.S) => copy27_c b b1 L N hL
  have hs1 : ∀ q, q ∈ Po.add [] s ↔ q ∈ Q 0 := fun q => by rw [Po.mem_add, h0]; simp
  have hs2 : (Po.add [] s).Nodup := Po.add_nodup List.nodup_nil s
  clear h0
  rw [po_cs]
  unfold Po.noneP
  obtain ⟨a0, a, b', c, d⟩ := s
  simp only [pd_cs, Pd.T.k, Pd.T.f, Pd.T.v, Pd.T.l, Po.S.av, List.length_nil] at *
  refine ncall_of Tryz.func35 rfl (by decide) ?_
  generalize hR : Po.runs sw = R at *
  clear hR
  repeat' first|((try intro K hK);((with_reducible refine gMap ?_); refine NMap.make fun b1 => ?_; conv=>whnf))|((try intro K hK);((with_reducible refine gMap ?_); refine sent_upd (j := 4) (L := []) hu rfl hkey rfl ?_; conv=>whnf))|(refine sxZ ?_;try clear hK K)|refine sxW ?_ ?_<;>intro _|(intro K hK _;(conv=>whnf))|(intro _;(conv=>whnf))
  refine st_auto (α := Nat × List Po.S × Nat) (fun (i, N, b2) => i ≤ l.length ∧ N.Nodup ∧ ∀ q, q ∈ N ↔ q ∈ Q i) (fun (i, N, b2) => [.keep, .keep, .keep, .keep, .keep, .keep, .keep, .keep, .keep, .keep, .keep, .set (.raw (.map (some b2))), .keep, .drop, .drop, .drop, .keep, .keep, .keep, .keep, .keep, .keep, .keep, .keep, .keep, .keep, .keep, .keep, .keep, .keep, .keep, .keep, .keep, .keep, .keep, .keep, .keep, .keep, .keep, .keep, .keep, .keep, .keep, .keep, .keep, .keep, .keep, .keep, .keep, .keep, .keep, .keep, .keep, .keep, .keep, .keep, .keep, .keep, .keep, .keep, .keep, .keep, .keep, .keep, .keep, .keep, .keep, .keep, .keep, .keep, .keep, .keep, .keep, .keep, .keep, .keep, .keep, .keep, .keep, .keep, .keep, .set (.int .i64 i), .drop, .drop, .drop, .drop, .drop, .drop, .drop, .drop, .drop, .drop, .drop, .drop, .drop, .drop, .drop, .drop, .drop, .keep, .keep, .keep]) (fun (i, N, b2) => [.keep, .keep, .keep, .keep, .set (mapB b2 (Po.sM N))]) (fun (i, N, b2) => l.length - i) (0, Po.add [] ⟨a0, a, b', c, d⟩, b1) ⟨Nat.zero_le _, hs2, hs1⟩ ?_ ?_ ?_
  · exact fitsGo
  · exact MemFits.eq rfl
  (intro ⟨i, N, b2⟩ ⟨hi, hn, hm⟩; intro K hK; (conv=>whnf); refine hK _ _ ?_; clear hK K)
  dsimp only
  by_cases hlt : i < l.length
  · have hx : l[i]? = some l[i] := List.getElem?_eq_getElem hlt
    obtain ⟨pA, pcap, A, cap, hA, c0, c1, c2, c3, c4, c5, c6, c7⟩ := hrow.get hx
    have hAo := hA.l.ok
    have hAp := hA.p.ok
    have cc := ih _ (List.mem_of_getElem? hx) _ _ hA
    have hnx := hnxt i hlt
    clear ih hnxt hcopy
    generalize l[i] = y at *
    generalize hRy : R y = Ry at *
    clear hRy
    obtain ⟨yk, ⟨ypk, ypf, ypv, ypl⟩, yf, yv, yl⟩ := y
    simp only [Po.cs, Po.T.k, Po.T.p, Po.T.f, Po.T.v, Po.T.l, Pd.T.k, Pd.T.f, Pd.T.v, Pd.T.l] at cc c0 c1 c2 c3 c4 c5 c6 c7 hAo hAp
    repeat' first|((try intro K hK);((with_reducible refine gMap ?_); refine NMap.make fun b3 => ?_; conv=>whnf))|((try intro K hK);((with_reducible refine gMap ?_); refine sent_range (N := N) hu (MapIn.own (j := 4) rfl) fun c9 => ?_; conv=>whnf))|(refine sxZ ?_;try clear hK K)|refine sxW ?_ ?_<;>intro _|(intro K hK _;(conv=>whnf))|(intro _;(conv=>whnf))
    refine st_auto (α := Array Nat × List Po.S) (fun (seen, N2) => N2.Nodup ∧ ∀ q, q ∈ N2 ↔ ∃ t, Po.come N seen t ∧ q ∈ Ry t) (fun (seen, N2) => [.keep, .keep, .keep, .keep, .keep, .keep, .keep, .keep, .keep, .keep, .keep, .keep, .keep, .keep, .keep, .drop, .keep, .keep, .keep, .keep, .keep, .keep, .keep, .keep, .keep, .keep, .keep, .keep, .keep, .keep, .keep, .keep, .keep, .keep, .keep, .keep, .keep, .keep, .keep, .keep, .keep, .keep, .keep, .keep, .keep, .keep, .keep, .keep, .keep, .keep, .keep, .keep, .keep, .keep, .keep, .keep, .keep, .keep, .keep, .keep, .keep, .keep, .keep, .keep, .keep, .keep, .keep, .keep, .keep, .keep, .keep, .keep, .keep, .keep, .keep, .keep, .keep, .keep, .keep, .keep, .keep, .keep, .keep, .keep, .keep, .keep, .keep, .keep, .drop, .drop, .drop, .drop, .drop, .drop, .drop, .drop, .drop, .keep, .keep, .keep, .keep, .keep]) (fun (seen, N2) => [.keep, .keep, .keep, .keep, .keep, .keep, .set (mapB b3 (Po.sM N2)), .set (itB c9 b2 N.length seen)]) (fun (seen, N2) => Po.left N.length seen) (#[], []) ⟨List.nodup_nil, fun q => ⟨fun h => (List.not_mem_nil h).elim, fun ⟨t, h, _⟩ => absurd h Po.come_none⟩⟩ ?_ ?_ ?_
    · exact fitsGo
    · exact MemFits.eq rfl
    (intro ⟨seen, N2⟩ ⟨hn2, hm2⟩; intro K hK; (conv=>whnf); refine hK _ _ ?_; clear hK K)
    dsimp only
    repeat' first|((try intro K hK);(with_reducible refine gC ?_);(refine cN [0, 6] (cc t9 b3 N2 hn2) ?_;rintro _ _ ⟨N3, hn3, hm3, rfl, rfl⟩;refine cR ?_))|((try intro K hK);((with_reducible refine gMap ?_); refine sent_next (N := N) (j := 7) rfl (MapIn.own (j := 4) rfl) ?_ ?_ <;> first | (intro i9 t9 hi9 hs9; conv=>whnf) | (intro hall9; conv=>whnf)))|((try intro K hK);((with_reducible refine gMap ?_); refine sent_now (N := N) (j := 7) rfl (MapIn.own (j := 4) rfl) hi9 ?_; conv=>whnf))|(refine sxZ ?_;try clear hK K)|refine sxW ?_ ?_<;>intro _|(intro K hK _;(conv=>whnf))|(intro _;(conv=>whnf))
    · refine st_round (i + 1, N2, b3) ⟨hlt, hn2, fun q => ?_⟩ (show l.length - (i + 1) < l.length - i by omega) ?_ (MemFits.pick [0, 1, 2, 3, 6] (by decide) rfl)
      · rw [hm2, hnx]
        exact exists_congr fun t => and_congr ((Po.come_all hall9).trans (hm t)) Iff.rfl
      · exact fitsGo
    · refine st_round (seen.push i9, N3) ⟨hn3, fun q => ?_⟩ (Po.left_push (List.getElem?_eq_some_iff.1 hi9).1 hs9) ?_ (MemFits.pre 8 rfl)
      · rw [hm3, hm2]
        constructor
        · rintro (⟨t, h1, h2⟩ | h)
          · exact ⟨t, (Po.come_push hi9).2 (.inl h1), h2⟩
          · exact ⟨t9, (Po.come_push hi9).2 (.inr rfl), h⟩
        · rintro ⟨t, h1, h2⟩
          rcases (Po.come_push hi9).1 h1 with h1 | rfl
          · exact .inl ⟨t, h1, h2⟩
          · exact .inr h2
      · exact fitsGo
  · obtain rfl : i = l.length := by omega
    have cc := hcopy b2 N
    clear ih hnxt hcopy
    repeat' first|(intro K hK;(with_reducible refine gC ?_);(refine cN [1, 4] cc ?_;rintro _ _ ⟨L2, hn2, hm2, rfl, rfl⟩;refine cR ?_))|(refine sxZ ?_;try clear hK K)|refine sxW ?_ ?_<;>intro _|(intro K hK _;(conv=>whnf))
    all_goals exact ⟨L2, hn2, fun t => by rw [hm2, hm], rfl, MemFits.pre 2 rfl⟩
theorem run27_c : ∀ (n : Nat) (F : Heap) (x : Po.T) (pu u : Value) (sw : Int), Po.tot x ≤ n → Po.tot x ≤ 4611686018427387904 → Po.fits x = true → Po.At F x pu u → ∀ (s : Po.S) (b : Nat) (L : List Po.S), L.Nodup →
    NCall Tryz.prog 35 [.raw (.map (some b)), .agg (Po.cs x pu u), .int .i64 sw, .agg s.av] [hpB F, mapB b (Po.sM L)] fun r m => Po.doneR F b L (fun t => t ∈ Po.runs sw x s) r m
  | 0, F, x, pu, u, sw, hn, _, _, _ => absurd (Po.tot_pos x) (by omega)
  | n + 1, F, ⟨k, p, f, v, l⟩, pu, u, sw, hn, hs, hf, hx => fun s b L hL => by
    have e2 := Po.tot_mk k p f v l
    obtain ⟨hsh, hfl⟩ := Po.fits_iff.1 hf
    have ih : ∀ y ∈ l, ∀ pw w, Po.At F y pw w → ∀ (s : Po.S) (b : Nat) (L : List Po.S), L.Nodup → NCall Tryz.prog 35 [.raw (.map (some b)), .agg (Po.cs y pw w), .int .i64 sw, .agg s.av] [hpB F, mapB b (Po.sM L)] fun r m => Po.doneR F b L (fun t => t ∈ Po.runs sw y s) r m :=
      fun y hy pw w hw => run27_c n F y pw w sw (by have := Po.tot_lt (k := k) (q := p) (f := f) (v := v) hy; omega) (by have := Po.tot_lt (k := k) (q := p) (f := f) (v := v) hy; omega) (hfl y hy) hw
    rcases hsh with ⟨rfl, hr, ⟨rfl, rfl⟩, hl⟩ | ⟨rfl, rfl, hf1, hv1, hl⟩ | ⟨rfl | rfl, rfl, ⟨rfl, rfl⟩, hl1, hl2⟩ | ⟨rfl, hr, ⟨rfl, rfl⟩, hl⟩
    · obtain rfl := List.eq_nil_of_length_eq_zero hl
      exact run27_1 F p pu u sw (by omega) hx s b L hL
    · obtain rfl := List.eq_nil_of_length_eq_zero hl
      exact run27_2 F f v pu u sw hx s b L hL
    · exact run27_3 F l pu u sw (by omega) hx s b L hL ih
    · exact run27_4 F l pu u sw (by omega) hx s b L hL ih
    · match l, hl with
      | [x, y], _ => exact run27_5 F p x y pu u sw (by omega) hx s b L hL ih
end Go.Proofs.YtngodakgbldlpaaGreatDoor


