/-
  MatchReads: any bytes are read as the document says; what may be is read as it was told.
-/
import Derived.Test.YtokbckflleaplaaDoorMt14
namespace Go.Proofs.YtokbckflleaplaaDoor
open Go.Sx
set_option maxRecDepth 20000
set_option linter.unusedSimpArgs false
set_option linter.unusedVariables false
set_option linter.unusedVariables false
theorem read8_c (a : Addr) (r : Oct.R) (h : r.ok) : NCall Tryd.prog 52 [.ptr 0 a 0] [RB a r] fun v m => v = .agg (Mt.rdV r).av ∧ m = [RB a (Mt.rdR r)] :=
  (read8_raw a r h).fits fun r' m' e => ⟨r', _, rfl, e.2, e.1, rfl⟩
theorem refread8_c (a : Addr) (r : Oct.R) (h : r.ok) : NCall Tryd.prog 53 [.ptr 0 a 0] [XB a r] fun v m => v = .agg (Mt.rdV r).av ∧ m = [XB a (Mt.rdR r)] :=
  (refread8_raw a r h).fits fun r' m' e => ⟨r', _, rfl, e.2, e.1, rfl⟩
theorem draw_ns {P : Program} {Q : Post} {sl : List AV} {m : List Blk} {id : Nat} {l : List Oper} (_h0 : (l.all fun o => !isStore o) = true) (h1 : P.follows .mixedOrders = true) (h2 : Region.lexB .any l.toArray = true) (h : opsQ P l.toArray l sl m (normS Q)) : codeK P (.region id l.toArray true) sl m Q := z34 h1 h2 h
namespace Oct
theorem num_lit {s : List UInt8} {i : Nat} {b : UInt8} (h : s[i]? = some b) : R.num ⟨s, i, 0⟩ 1 = (b.toNat, ⟨s, i + 1, 0⟩) := by
  have hi : i < s.length := (List.getElem?_eq_some_iff.1 h).1
  have e : (s.drop i).take 1 = [b] := by
    rw [List.drop_eq_getElem_cons hi]
    have := (List.getElem?_eq_some_iff.1 h).2
    simp [this]
  have ht : R.take ⟨s, i, 0⟩ 1 = ([b], ⟨s, i + 1, 0⟩) := by
    unfold R.take
    rw [if_neg (by simp), if_neg (by decide), if_neg (by dsimp only; omega)]
    rw [show (1 : Int).toNat = 1 from rfl, e]
  unfold R.num
  rw [if_neg (by decide), ht]
  simp [val]
theorem seq_lit {s : List UInt8} : ∀ k, k ≤ s.length → rsq ⟨s, 0, 0⟩ k = ⟨s, k, 0⟩
  | 0, _ => rfl
  | k + 1, h => by
    have hk : k < s.length := h
    have := num_lit (s := s) (i := k) (List.getElem?_eq_getElem hk)
    unfold rsq
    rw [seq_lit k (by omega), this]
theorem nsq_lit {s : List UInt8} {k : Nat} {b : UInt8} (h : s[k]? = some b) : nsq ⟨s, 0, 0⟩ k = b.toNat := by
  have hk : k < s.length := (List.getElem?_eq_some_iff.1 h).1
  unfold nsq
  rw [seq_lit k (by omega), num_lit h]
theorem num_one {n : Nat} (h : n < 256) : Oct.num (n : Int) 1 = [UInt8.ofNat n] := by
  unfold Oct.num
  rw [if_neg (by simp; omega)]
  simp [Oct.be, Nat.mod_eq_of_lt h]
end Oct
namespace Mt
theorem code_list (x : N) (hx : x.lt) (hp : -1 ≤ x.p ∧ x.p ≤ 7) : codeTo x 4 = [UInt8.ofNat (x.p + 1).toNat, UInt8.ofNat x.v0, UInt8.ofNat x.m0, UInt8.ofNat x.v1, UInt8.ofNat x.m1, UInt8.ofNat x.v2, UInt8.ofNat x.m2, UInt8.ofNat x.v3, UInt8.ofNat x.m3] := by
  obtain ⟨⟨h0, k0⟩, ⟨h1, k1⟩, ⟨h2, k2⟩, h3, k3⟩ := all4.1 hx
  have hq : (x.p + 1) = (((x.p + 1).toNat : Nat) : Int) := by omega
  unfold codeTo codeTo codeTo codeTo codeTo
  rw [Oct.num_one h0, Oct.num_one k0, Oct.num_one h1, Oct.num_one k1, Oct.num_one h2, Oct.num_one k2, Oct.num_one h3, Oct.num_one k3, hq, Oct.num_one (by omega)]
  rfl
theorem back (x : N) (hx : x.ok) : rdV ⟨codeTo x 4, 0, 0⟩ = x.toM ∧ rdR ⟨codeTo x 4, 0, 0⟩ = ⟨codeTo x 4, 9, 0⟩ ∧ (codeTo x 4).length = 9 := by
  obtain ⟨⟨h0, k0⟩, ⟨h1, k1⟩, ⟨h2, k2⟩, h3, k3⟩ := all4.1 hx.lt
  have hp := hx.1
  simp only [N.v, N.m] at h0 h1 h2 h3 k0 k1 k2 k3
  have hl := code_list x hx.lt hx.1
  have e : ∀ n, n < 256 → (UInt8.ofNat n).toNat = n := fun n hn => by simp [Nat.mod_eq_of_lt hn]
  have hM : rdM ⟨codeTo x 4, 0, 0⟩ = x.toM := by
    rw [hl]
    unfold rdM
    rw [Oct.nsq_lit (k := 0) rfl, Oct.nsq_lit (k := 1) rfl, Oct.nsq_lit (k := 2) rfl, Oct.nsq_lit (k := 3) rfl, Oct.nsq_lit (k := 4) rfl, Oct.nsq_lit (k := 5) rfl, Oct.nsq_lit (k := 6) rfl, Oct.nsq_lit (k := 7) rfl, Oct.nsq_lit (k := 8) rfl]
    rw [e _ h0, e _ h1, e _ h2, e _ h3, e _ k0, e _ k1, e _ k2, e _ k3, e _ (by omega)]
    unfold N.toM
    rw [show (((x.p + 1).toNat : Nat) : Int) - 1 = x.p by omega]
  have hlen : (codeTo x 4).length = 9 := by rw [hl]; rfl
  have hR : rdR ⟨codeTo x 4, 0, 0⟩ = ⟨codeTo x 4, 9, 0⟩ := by
    unfold rdR
    rw [hM, if_pos ((N.ok_iff x).2 hx), Oct.seq_lit 9 (by omega)]
  refine ⟨?_, hR, hlen⟩
  unfold rdV
  rw [hR, hM, if_pos rfl]
end Mt
theorem mv_list (V : Mt.M) : V.av = [.int .i64 V.p, .int .i64 V.v0, .int .i64 V.v1, .int .i64 V.v2, .int .i64 V.v3, .int .i64 V.m0, .int .i64 V.m1, .int .i64 V.m2, .int .i64 V.m3] := rfl
set_option maxHeartbeats 8000000 in
theorem mr_core (F : Heap) (hF : TabF F) (s q : List UInt8) (hq : q = s ∧ s.length ≤ 60 ∨ s.take 60 = q ∧ 60 < s.length) (hs : s.length ≤ 9223372036854775807) (a : Mt.M) (ha : a.in64) :
    NCall Tryd.prog 9 [.str s, .agg a.av] [hpB F] fun r _ => r = .bool true := by
  refine ncall_of Tryd.func9 rfl (by decide) ?_
  have q2 := refright_c a ha
  have hql : q.length ≤ 60 := by
    rcases hq with ⟨rfl, h⟩ | ⟨rfl, h⟩
    · exact h
    · simp; omega
  have hr0 : (⟨q, 0, 0⟩ : Oct.R).ok := ⟨Nat.zero_le _, by dsimp only; omega, by dsimp only; omega, by dsimp only; omega⟩
  have hr1 := Mt.rdR_ok hr0
  have c1 : ∀ a, _ := fun a => read8_c a ⟨q, 0, 0⟩ hr0
  have c2 : ∀ a, _ := fun a => refread8_c a ⟨q, 0, 0⟩ hr0
  have c3 : ∀ a, _ := fun a => rleft_c a _ hr1
  have c4 : ∀ a, _ := fun a => xleft_c a _ hr1
  have c5 : ∀ a, _ := fun a => rfin_c a _ hr1
  have c6 : ∀ a, _ := fun a => xfin_c a _ hr1
  generalize Mt.rdV ⟨q, 0, 0⟩ = V at *
  generalize Mt.rdR ⟨q, 0, 0⟩ = R1 at *
  generalize R1.left = lf at *
  generalize R1.fin = R2 at *
  simp only [mv_list] at c1 c2
  by_cases h1 : a.ok
  · obtain ⟨x, rfl⟩ := Mt.M.toN h1
    have hx := (Mt.N.ok_iff x).1 h1
    rw [decide_eq_true h1] at q2
    have e1 := code8_c x hx.lt hx.1
    obtain ⟨k1, k2, k3⟩ := Mt.back x hx
    have hr2 : (⟨Mt.codeTo x 4, 0, 0⟩ : Oct.R).ok := ⟨Nat.zero_le _, by dsimp only; omega, by dsimp only; omega, by dsimp only; omega⟩
    have hr3 := Mt.rdR_ok hr2
    have d1 : ∀ a, _ := fun a => read8_c a ⟨Mt.codeTo x 4, 0, 0⟩ hr2
    have d5 : ∀ a, _ := fun a => rfin_c a _ hr3
    rw [k1] at d1
    rw [k2] at d1 d5
    have k4 : (⟨Mt.codeTo x 4, 9, 0⟩ : Oct.R).fin = ⟨Mt.codeTo x 4, 9, 0⟩ := by
      unfold Oct.R.fin Oct.R.left
      rw [if_pos rfl, if_neg (by dsimp only; omega)]
    rw [k4] at d5
    generalize Mt.codeTo x 4 = cc at *
    clear k1 k2 k4 hr3 hr2 h1 ha
    obtain ⟨p, v0, v1, v2, v3, m0, m1, m2, m3⟩ := x
    simp only [Mt.N.toM, Mt.M.av] at *
    rcases hq with ⟨rfl, hq⟩ | ⟨hq, hq2⟩
    · (repeat' (first | (refine z35 (by kernel_rfl) _ rfl ?_) | (refine z36 rfl (by kernel_rfl) ?_; intro K hK; (conv=>whnf)) | (refine z37 rfl (by kernel_rfl) ?_; intro K hK; (conv=>whnf)) | (refine z38 rfl (by kernel_rfl) ?_) | (refine z39 rfl rfl (by kernel_rfl) (by intro h; cases h) ?_) | (refine z40 ?_ ?_; (intro K hK; (conv=>whnf))) | (refine z41 ?_ ?_; (intro K hK; (conv=>whnf))) | exact z42 | (with_reducible first|refine z0 ?_|refine z1 ?_|refine z2 ?_|refine z3 ?_|refine z4 ?_|refine z5 ?_|refine z6 ?_|refine z7 ?_|refine z8 ?_|refine z9 ?_|refine z10 ?_|refine z11 ?_|refine z12 ?_|refine z13 ?_|refine z14 ?_|refine z15 ?_|refine z16 ?_|refine z17 ?_|refine z18 ?_|refine z19 ?_|refine z20 ?_|refine z21 ?_|refine z22 ?_|refine z23 ?_|refine z24 ?_) | (((with_reducible first|refine z25 ?_|refine z26 ?_);intro K hK;(conv=>whnf))) | (with_reducible first|(refine hK _ _ ?_;clear hK K)|(refine hA ?_;clear hA hB A B)|(refine hB ?_;clear hA hB A B)|(refine hK _ ?_;clear hK K)) | ((with_reducible refine z29 ?_);intro A B hA hB;(conv=>whnf)) | (refine z30 (by decide) ?_) | ((first|refine z31 rfl ?_|refine z32 rfl ?_|refine z33 rfl ?_);intro K hK;(conv=>whnf)) | (((with_reducible first|refine NIf.yes ?s ?_);case s=>(simp ;done))<;>(conv=>whnf)) | (((with_reducible first|refine NIf.no ?s ?_);case s=>(simp ;done))<;>(conv=>whnf)) | ((with_reducible refine NCall.isF 51 ?_); (refine NCall.subw [] _ _ (ropen_c q) rfl (by decide) rfl ?_; rintro _ _ ⟨a1, rfl, rfl⟩; refine ⟨Nat.le_of_ble_eq_true rfl, .ptr 2 a1 0, rfl, ?_⟩; (conv=>whnf))) | ((with_reducible refine NCall.isF 52 ?_); (refine NCall.subw [2] _ _ (c1 _) rfl (by decide) rfl ?_; rintro _ _ ⟨rfl, rfl⟩; refine ⟨Nat.le_of_ble_eq_true rfl, _, rfl, ?_⟩; (conv=>whnf))) | ((with_reducible refine NCall.isF 53 ?_); (refine NCall.subw [3] _ _ (c2 _) rfl (by decide) rfl ?_; rintro _ _ ⟨rfl, rfl⟩; refine ⟨Nat.le_of_ble_eq_true rfl, _, rfl, ?_⟩; (conv=>whnf))) | ((with_reducible refine NCall.isF 54 ?_); (refine NCall.subw [2] _ _ (c3 _) rfl (by decide) rfl ?_; rintro _ _ ⟨rfl, rfl⟩; refine ⟨Nat.le_of_ble_eq_true rfl, _, rfl, ?_⟩; (conv=>whnf))) | ((with_reducible refine NCall.isF 55 ?_); (refine NCall.subw [3] _ _ (c4 _) rfl (by decide) rfl ?_; rintro _ _ ⟨rfl, rfl⟩; refine ⟨Nat.le_of_ble_eq_true rfl, _, rfl, ?_⟩; (conv=>whnf))) | ((with_reducible refine NCall.isF 56 ?_); (refine NCall.subw [2] _ _ (c5 _) rfl (by decide) rfl ?_; rintro _ _ ⟨rfl, rfl⟩; refine ⟨Nat.le_of_ble_eq_true rfl, _, rfl, ?_⟩; (conv=>whnf))) | ((with_reducible refine NCall.isF 57 ?_); (refine NCall.subw [3] _ _ (c6 _) rfl (by decide) rfl ?_; rintro _ _ ⟨rfl, rfl⟩; refine ⟨Nat.le_of_ble_eq_true rfl, _, rfl, ?_⟩; (conv=>whnf))) | ((with_reducible refine NCall.isF 14 ?_); (refine NCall.pure (q2) ?_; rintro _ _ rfl; refine ⟨_, rfl, ?_⟩; (conv=>whnf))) | ((with_reducible refine NCall.isF 33 ?_); (refine NCall.pure (e1) ?_; rintro _ _ rfl; refine ⟨_, rfl, ?_⟩; (conv=>whnf))) | ((with_reducible refine NCall.isF 51 ?_); (refine NCall.subw [] _ _ (ropen_c cc) rfl (by decide) rfl ?_; rintro _ _ ⟨a2, rfl, rfl⟩; refine ⟨Nat.le_of_ble_eq_true rfl, .ptr 4 a2 0, rfl, ?_⟩; (conv=>whnf))) | ((with_reducible refine NCall.isF 52 ?_); (refine NCall.subw [4] _ _ (d1 _) rfl (by decide) rfl ?_; rintro _ _ ⟨rfl, rfl⟩; refine ⟨Nat.le_of_ble_eq_true rfl, _, rfl, ?_⟩; (conv=>whnf))) | ((with_reducible refine NCall.isF 56 ?_); (refine NCall.subw [4] _ _ (d5 _) rfl (by decide) rfl ?_; rintro _ _ ⟨rfl, rfl⟩; refine ⟨Nat.le_of_ble_eq_true rfl, _, rfl, ?_⟩; (conv=>whnf))) | ((with_reducible refine NCall.isF 16 ?_); (refine NCall.subw [0] _ _ (awake8_c F hF) rfl (by decide) rfl ?_; rintro _ _ ⟨rfl, rfl⟩; refine ⟨Nat.le_of_ble_eq_true rfl, _, rfl, ?_⟩; (conv=>whnf))) | (((with_reducible first|refine NV.quo ?s ?_|refine NV.rem ?s ?_|refine NV.i64 ?s ?_|refine NV.u32 ?s ?_|refine NV.u8 ?s ?_|refine NV.u64 ?s ?_);case s=>omega)<;>(conv=>whnf)) | ((with_reducible first|refine NV.divk ?_|refine NV.modk ?_|refine NN.lit ?_|refine NN.cast ?_|refine NN.a1 ?_|refine NN.a2 ?_|refine NN.a3 ?_|refine NN.a4 ?_|refine NN.a5 ?_|refine NN.a6 ?_|refine NV.keep ?_|refine NN.keep ?_|refine NS.keep ?_|refine NIf.not_ ?_)<;>(conv=>whnf)) | (((with_reducible refine NH.mk ?s ?_);case s=>(and_intros <;> first | with_reducible rfl | omega | assumption | exact Nat.le_of_ble_eq_true rfl | (simp only [List.length_append, List.length_cons, List.length_nil]; omega) | rfl))<;>(conv=>whnf)) | (((with_reducible refine NIf.decY ?s ?_);case s=>first|with_reducible rfl|assumption|omega)<;>(conv=>whnf)) | (((with_reducible refine NIf.decN ?s ?_);case s=>first|with_reducible rfl|assumption|omega)<;>(conv=>whnf)) | (((with_reducible refine NIf.yes ?s ?_);case s=>first|rfl|assumption)<;>(conv=>whnf)) | (((with_reducible refine NIf.no ?s ?_);case s=>first|rfl|assumption)<;>(conv=>whnf)) | (((with_reducible refine NLd.of (by with_reducible assumption) ?_))<;>(conv=>whnf)) | ((refine NFlat_iff.2 ⟨⟨?s1,?s2⟩,?_⟩;(case s1=>decide +kernel);(case s2=>decide +kernel))<;>(conv=>whnf)) | ((with_reducible first|refine NIf.dec (fun _=>?_) (fun _=>?_)|refine NIf.both (fun _=>?_) (fun _=>?_))<;>(conv=>whnf)) | ((intro _;skip)<;>(conv=>whnf))))
      all_goals rfl
    · (repeat' (first | (refine z35 (by kernel_rfl) _ rfl ?_) | (refine z36 rfl (by kernel_rfl) ?_; intro K hK; (conv=>whnf)) | (refine z37 rfl (by kernel_rfl) ?_; intro K hK; (conv=>whnf)) | (refine z38 rfl (by kernel_rfl) ?_) | (refine z39 rfl rfl (by kernel_rfl) (by intro h; cases h) ?_) | (refine z40 ?_ ?_; (intro K hK; (conv=>whnf))) | (refine z41 ?_ ?_; (intro K hK; (conv=>whnf))) | exact z42 | (with_reducible first|refine z0 ?_|refine z1 ?_|refine z2 ?_|refine z3 ?_|refine z4 ?_|refine z5 ?_|refine z6 ?_|refine z7 ?_|refine z8 ?_|refine z9 ?_|refine z10 ?_|refine z11 ?_|refine z12 ?_|refine z13 ?_|refine z14 ?_|refine z15 ?_|refine z16 ?_|refine z17 ?_|refine z18 ?_|refine z19 ?_|refine z20 ?_|refine z21 ?_|refine z22 ?_|refine z23 ?_|refine z24 ?_) | (((with_reducible first|refine z25 ?_|refine z26 ?_);intro K hK;(conv=>whnf))) | (with_reducible first|(refine hK _ _ ?_;clear hK K)|(refine hA ?_;clear hA hB A B)|(refine hB ?_;clear hA hB A B)|(refine hK _ ?_;clear hK K)) | ((with_reducible refine z29 ?_);intro A B hA hB;(conv=>whnf)) | (refine z30 (by decide) ?_) | ((first|refine z31 rfl ?_|refine z32 rfl ?_|refine z33 rfl ?_);intro K hK;(conv=>whnf)) | ((with_reducible refine NS.eq (hq) ?_) <;> (conv=>whnf)) | (((with_reducible first|refine NIf.yes ?s ?_);case s=>(simp ;done))<;>(conv=>whnf)) | (((with_reducible first|refine NIf.no ?s ?_);case s=>(simp ;done))<;>(conv=>whnf)) | ((with_reducible refine NCall.isF 51 ?_); (refine NCall.subw [] _ _ (ropen_c q) rfl (by decide) rfl ?_; rintro _ _ ⟨a1, rfl, rfl⟩; refine ⟨Nat.le_of_ble_eq_true rfl, .ptr 2 a1 0, rfl, ?_⟩; (conv=>whnf))) | ((with_reducible refine NCall.isF 52 ?_); (refine NCall.subw [2] _ _ (c1 _) rfl (by decide) rfl ?_; rintro _ _ ⟨rfl, rfl⟩; refine ⟨Nat.le_of_ble_eq_true rfl, _, rfl, ?_⟩; (conv=>whnf))) | ((with_reducible refine NCall.isF 53 ?_); (refine NCall.subw [3] _ _ (c2 _) rfl (by decide) rfl ?_; rintro _ _ ⟨rfl, rfl⟩; refine ⟨Nat.le_of_ble_eq_true rfl, _, rfl, ?_⟩; (conv=>whnf))) | ((with_reducible refine NCall.isF 54 ?_); (refine NCall.subw [2] _ _ (c3 _) rfl (by decide) rfl ?_; rintro _ _ ⟨rfl, rfl⟩; refine ⟨Nat.le_of_ble_eq_true rfl, _, rfl, ?_⟩; (conv=>whnf))) | ((with_reducible refine NCall.isF 55 ?_); (refine NCall.subw [3] _ _ (c4 _) rfl (by decide) rfl ?_; rintro _ _ ⟨rfl, rfl⟩; refine ⟨Nat.le_of_ble_eq_true rfl, _, rfl, ?_⟩; (conv=>whnf))) | ((with_reducible refine NCall.isF 56 ?_); (refine NCall.subw [2] _ _ (c5 _) rfl (by decide) rfl ?_; rintro _ _ ⟨rfl, rfl⟩; refine ⟨Nat.le_of_ble_eq_true rfl, _, rfl, ?_⟩; (conv=>whnf))) | ((with_reducible refine NCall.isF 57 ?_); (refine NCall.subw [3] _ _ (c6 _) rfl (by decide) rfl ?_; rintro _ _ ⟨rfl, rfl⟩; refine ⟨Nat.le_of_ble_eq_true rfl, _, rfl, ?_⟩; (conv=>whnf))) | ((with_reducible refine NCall.isF 14 ?_); (refine NCall.pure (q2) ?_; rintro _ _ rfl; refine ⟨_, rfl, ?_⟩; (conv=>whnf))) | ((with_reducible refine NCall.isF 33 ?_); (refine NCall.pure (e1) ?_; rintro _ _ rfl; refine ⟨_, rfl, ?_⟩; (conv=>whnf))) | ((with_reducible refine NCall.isF 51 ?_); (refine NCall.subw [] _ _ (ropen_c cc) rfl (by decide) rfl ?_; rintro _ _ ⟨a2, rfl, rfl⟩; refine ⟨Nat.le_of_ble_eq_true rfl, .ptr 4 a2 0, rfl, ?_⟩; (conv=>whnf))) | ((with_reducible refine NCall.isF 52 ?_); (refine NCall.subw [4] _ _ (d1 _) rfl (by decide) rfl ?_; rintro _ _ ⟨rfl, rfl⟩; refine ⟨Nat.le_of_ble_eq_true rfl, _, rfl, ?_⟩; (conv=>whnf))) | ((with_reducible refine NCall.isF 56 ?_); (refine NCall.subw [4] _ _ (d5 _) rfl (by decide) rfl ?_; rintro _ _ ⟨rfl, rfl⟩; refine ⟨Nat.le_of_ble_eq_true rfl, _, rfl, ?_⟩; (conv=>whnf))) | ((with_reducible refine NCall.isF 16 ?_); (refine NCall.subw [0] _ _ (awake8_c F hF) rfl (by decide) rfl ?_; rintro _ _ ⟨rfl, rfl⟩; refine ⟨Nat.le_of_ble_eq_true rfl, _, rfl, ?_⟩; (conv=>whnf))) | (((with_reducible first|refine NV.quo ?s ?_|refine NV.rem ?s ?_|refine NV.i64 ?s ?_|refine NV.u32 ?s ?_|refine NV.u8 ?s ?_|refine NV.u64 ?s ?_);case s=>omega)<;>(conv=>whnf)) | ((with_reducible first|refine NV.divk ?_|refine NV.modk ?_|refine NN.lit ?_|refine NN.cast ?_|refine NN.a1 ?_|refine NN.a2 ?_|refine NN.a3 ?_|refine NN.a4 ?_|refine NN.a5 ?_|refine NN.a6 ?_|refine NV.keep ?_|refine NN.keep ?_|refine NS.keep ?_|refine NIf.not_ ?_)<;>(conv=>whnf)) | (((with_reducible refine NH.mk ?s ?_);case s=>(and_intros <;> first | with_reducible rfl | omega | assumption | exact Nat.le_of_ble_eq_true rfl | (simp only [List.length_append, List.length_cons, List.length_nil]; omega) | rfl))<;>(conv=>whnf)) | (((with_reducible refine NIf.decY ?s ?_);case s=>first|with_reducible rfl|assumption|omega)<;>(conv=>whnf)) | (((with_reducible refine NIf.decN ?s ?_);case s=>first|with_reducible rfl|assumption|omega)<;>(conv=>whnf)) | (((with_reducible refine NIf.yes ?s ?_);case s=>first|rfl|assumption)<;>(conv=>whnf)) | (((with_reducible refine NIf.no ?s ?_);case s=>first|rfl|assumption)<;>(conv=>whnf)) | (((with_reducible refine NLd.of (by with_reducible assumption) ?_))<;>(conv=>whnf)) | ((refine NFlat_iff.2 ⟨⟨?s1,?s2⟩,?_⟩;(case s1=>decide +kernel);(case s2=>decide +kernel))<;>(conv=>whnf)) | ((with_reducible first|refine NIf.dec (fun _=>?_) (fun _=>?_)|refine NIf.both (fun _=>?_) (fun _=>?_))<;>(conv=>whnf)) | ((intro _;skip)<;>(conv=>whnf))))
      all_goals rfl
  · rw [decide_eq_false h1] at q2
    obtain ⟨p, v0, v1, v2, v3, m0, m1, m2, m3⟩ := a
    simp only [Mt.M.av] at q2 ⊢
    rcases hq with ⟨rfl, hq⟩ | ⟨hq, hq2⟩
    · (repeat' (first | (refine z35 (by kernel_rfl) _ rfl ?_) | (refine z36 rfl (by kernel_rfl) ?_; intro K hK; (conv=>whnf)) | (refine z37 rfl (by kernel_rfl) ?_; intro K hK; (conv=>whnf)) | (refine z38 rfl (by kernel_rfl) ?_) | (refine z39 rfl rfl (by kernel_rfl) (by intro h; cases h) ?_) | (refine z40 ?_ ?_; (intro K hK; (conv=>whnf))) | (refine z41 ?_ ?_; (intro K hK; (conv=>whnf))) | exact z42 | (with_reducible first|refine z0 ?_|refine z1 ?_|refine z2 ?_|refine z3 ?_|refine z4 ?_|refine z5 ?_|refine z6 ?_|refine z7 ?_|refine z8 ?_|refine z9 ?_|refine z10 ?_|refine z11 ?_|refine z12 ?_|refine z13 ?_|refine z14 ?_|refine z15 ?_|refine z16 ?_|refine z17 ?_|refine z18 ?_|refine z19 ?_|refine z20 ?_|refine z21 ?_|refine z22 ?_|refine z23 ?_|refine z24 ?_) | (((with_reducible first|refine z25 ?_|refine z26 ?_);intro K hK;(conv=>whnf))) | (with_reducible first|(refine hK _ _ ?_;clear hK K)|(refine hA ?_;clear hA hB A B)|(refine hB ?_;clear hA hB A B)|(refine hK _ ?_;clear hK K)) | ((with_reducible refine z29 ?_);intro A B hA hB;(conv=>whnf)) | (refine z30 (by decide) ?_) | ((first|refine z31 rfl ?_|refine z32 rfl ?_|refine z33 rfl ?_);intro K hK;(conv=>whnf)) | (((with_reducible first|refine NIf.yes ?s ?_);case s=>(simp ;done))<;>(conv=>whnf)) | (((with_reducible first|refine NIf.no ?s ?_);case s=>(simp ;done))<;>(conv=>whnf)) | ((with_reducible refine NCall.isF 51 ?_); (refine NCall.subw [] _ _ (ropen_c q) rfl (by decide) rfl ?_; rintro _ _ ⟨a1, rfl, rfl⟩; refine ⟨Nat.le_of_ble_eq_true rfl, .ptr 2 a1 0, rfl, ?_⟩; (conv=>whnf))) | ((with_reducible refine NCall.isF 52 ?_); (refine NCall.subw [2] _ _ (c1 _) rfl (by decide) rfl ?_; rintro _ _ ⟨rfl, rfl⟩; refine ⟨Nat.le_of_ble_eq_true rfl, _, rfl, ?_⟩; (conv=>whnf))) | ((with_reducible refine NCall.isF 53 ?_); (refine NCall.subw [3] _ _ (c2 _) rfl (by decide) rfl ?_; rintro _ _ ⟨rfl, rfl⟩; refine ⟨Nat.le_of_ble_eq_true rfl, _, rfl, ?_⟩; (conv=>whnf))) | ((with_reducible refine NCall.isF 54 ?_); (refine NCall.subw [2] _ _ (c3 _) rfl (by decide) rfl ?_; rintro _ _ ⟨rfl, rfl⟩; refine ⟨Nat.le_of_ble_eq_true rfl, _, rfl, ?_⟩; (conv=>whnf))) | ((with_reducible refine NCall.isF 55 ?_); (refine NCall.subw [3] _ _ (c4 _) rfl (by decide) rfl ?_; rintro _ _ ⟨rfl, rfl⟩; refine ⟨Nat.le_of_ble_eq_true rfl, _, rfl, ?_⟩; (conv=>whnf))) | ((with_reducible refine NCall.isF 56 ?_); (refine NCall.subw [2] _ _ (c5 _) rfl (by decide) rfl ?_; rintro _ _ ⟨rfl, rfl⟩; refine ⟨Nat.le_of_ble_eq_true rfl, _, rfl, ?_⟩; (conv=>whnf))) | ((with_reducible refine NCall.isF 57 ?_); (refine NCall.subw [3] _ _ (c6 _) rfl (by decide) rfl ?_; rintro _ _ ⟨rfl, rfl⟩; refine ⟨Nat.le_of_ble_eq_true rfl, _, rfl, ?_⟩; (conv=>whnf))) | ((with_reducible refine NCall.isF 14 ?_); (refine NCall.pure (q2) ?_; rintro _ _ rfl; refine ⟨_, rfl, ?_⟩; (conv=>whnf))) | ((with_reducible refine NCall.isF 16 ?_); (refine NCall.subw [0] _ _ (awake8_c F hF) rfl (by decide) rfl ?_; rintro _ _ ⟨rfl, rfl⟩; refine ⟨Nat.le_of_ble_eq_true rfl, _, rfl, ?_⟩; (conv=>whnf))) | (((with_reducible first|refine NV.quo ?s ?_|refine NV.rem ?s ?_|refine NV.i64 ?s ?_|refine NV.u32 ?s ?_|refine NV.u8 ?s ?_|refine NV.u64 ?s ?_);case s=>omega)<;>(conv=>whnf)) | ((with_reducible first|refine NV.divk ?_|refine NV.modk ?_|refine NN.lit ?_|refine NN.cast ?_|refine NN.a1 ?_|refine NN.a2 ?_|refine NN.a3 ?_|refine NN.a4 ?_|refine NN.a5 ?_|refine NN.a6 ?_|refine NV.keep ?_|refine NN.keep ?_|refine NS.keep ?_|refine NIf.not_ ?_)<;>(conv=>whnf)) | (((with_reducible refine NH.mk ?s ?_);case s=>(and_intros <;> first | with_reducible rfl | omega | assumption | exact Nat.le_of_ble_eq_true rfl | (simp only [List.length_append, List.length_cons, List.length_nil]; omega) | rfl))<;>(conv=>whnf)) | (((with_reducible refine NIf.decY ?s ?_);case s=>first|with_reducible rfl|assumption|omega)<;>(conv=>whnf)) | (((with_reducible refine NIf.decN ?s ?_);case s=>first|with_reducible rfl|assumption|omega)<;>(conv=>whnf)) | (((with_reducible refine NIf.yes ?s ?_);case s=>first|rfl|assumption)<;>(conv=>whnf)) | (((with_reducible refine NIf.no ?s ?_);case s=>first|rfl|assumption)<;>(conv=>whnf)) | (((with_reducible refine NLd.of (by with_reducible assumption) ?_))<;>(conv=>whnf)) | ((refine NFlat_iff.2 ⟨⟨?s1,?s2⟩,?_⟩;(case s1=>decide +kernel);(case s2=>decide +kernel))<;>(conv=>whnf)) | ((with_reducible first|refine NIf.dec (fun _=>?_) (fun _=>?_)|refine NIf.both (fun _=>?_) (fun _=>?_))<;>(conv=>whnf)) | ((intro _;skip)<;>(conv=>whnf))))
      all_goals rfl
    · (repeat' (first | (refine z35 (by kernel_rfl) _ rfl ?_) | (refine z36 rfl (by kernel_rfl) ?_; intro K hK; (conv=>whnf)) | (refine z37 rfl (by kernel_rfl) ?_; intro K hK; (conv=>whnf)) | (refine z38 rfl (by kernel_rfl) ?_) | (refine z39 rfl rfl (by kernel_rfl) (by intro h; cases h) ?_) | (refine z40 ?_ ?_; (intro K hK; (conv=>whnf))) | (refine z41 ?_ ?_; (intro K hK; (conv=>whnf))) | exact z42 | (with_reducible first|refine z0 ?_|refine z1 ?_|refine z2 ?_|refine z3 ?_|refine z4 ?_|refine z5 ?_|refine z6 ?_|refine z7 ?_|refine z8 ?_|refine z9 ?_|refine z10 ?_|refine z11 ?_|refine z12 ?_|refine z13 ?_|refine z14 ?_|refine z15 ?_|refine z16 ?_|refine z17 ?_|refine z18 ?_|refine z19 ?_|refine z20 ?_|refine z21 ?_|refine z22 ?_|refine z23 ?_|refine z24 ?_) | (((with_reducible first|refine z25 ?_|refine z26 ?_);intro K hK;(conv=>whnf))) | (with_reducible first|(refine hK _ _ ?_;clear hK K)|(refine hA ?_;clear hA hB A B)|(refine hB ?_;clear hA hB A B)|(refine hK _ ?_;clear hK K)) | ((with_reducible refine z29 ?_);intro A B hA hB;(conv=>whnf)) | (refine z30 (by decide) ?_) | ((first|refine z31 rfl ?_|refine z32 rfl ?_|refine z33 rfl ?_);intro K hK;(conv=>whnf)) | ((with_reducible refine NS.eq (hq) ?_) <;> (conv=>whnf)) | (((with_reducible first|refine NIf.yes ?s ?_);case s=>(simp ;done))<;>(conv=>whnf)) | (((with_reducible first|refine NIf.no ?s ?_);case s=>(simp ;done))<;>(conv=>whnf)) | ((with_reducible refine NCall.isF 51 ?_); (refine NCall.subw [] _ _ (ropen_c q) rfl (by decide) rfl ?_; rintro _ _ ⟨a1, rfl, rfl⟩; refine ⟨Nat.le_of_ble_eq_true rfl, .ptr 2 a1 0, rfl, ?_⟩; (conv=>whnf))) | ((with_reducible refine NCall.isF 52 ?_); (refine NCall.subw [2] _ _ (c1 _) rfl (by decide) rfl ?_; rintro _ _ ⟨rfl, rfl⟩; refine ⟨Nat.le_of_ble_eq_true rfl, _, rfl, ?_⟩; (conv=>whnf))) | ((with_reducible refine NCall.isF 53 ?_); (refine NCall.subw [3] _ _ (c2 _) rfl (by decide) rfl ?_; rintro _ _ ⟨rfl, rfl⟩; refine ⟨Nat.le_of_ble_eq_true rfl, _, rfl, ?_⟩; (conv=>whnf))) | ((with_reducible refine NCall.isF 54 ?_); (refine NCall.subw [2] _ _ (c3 _) rfl (by decide) rfl ?_; rintro _ _ ⟨rfl, rfl⟩; refine ⟨Nat.le_of_ble_eq_true rfl, _, rfl, ?_⟩; (conv=>whnf))) | ((with_reducible refine NCall.isF 55 ?_); (refine NCall.subw [3] _ _ (c4 _) rfl (by decide) rfl ?_; rintro _ _ ⟨rfl, rfl⟩; refine ⟨Nat.le_of_ble_eq_true rfl, _, rfl, ?_⟩; (conv=>whnf))) | ((with_reducible refine NCall.isF 56 ?_); (refine NCall.subw [2] _ _ (c5 _) rfl (by decide) rfl ?_; rintro _ _ ⟨rfl, rfl⟩; refine ⟨Nat.le_of_ble_eq_true rfl, _, rfl, ?_⟩; (conv=>whnf))) | ((with_reducible refine NCall.isF 57 ?_); (refine NCall.subw [3] _ _ (c6 _) rfl (by decide) rfl ?_; rintro _ _ ⟨rfl, rfl⟩; refine ⟨Nat.le_of_ble_eq_true rfl, _, rfl, ?_⟩; (conv=>whnf))) | ((with_reducible refine NCall.isF 14 ?_); (refine NCall.pure (q2) ?_; rintro _ _ rfl; refine ⟨_, rfl, ?_⟩; (conv=>whnf))) | ((with_reducible refine NCall.isF 16 ?_); (refine NCall.subw [0] _ _ (awake8_c F hF) rfl (by decide) rfl ?_; rintro _ _ ⟨rfl, rfl⟩; refine ⟨Nat.le_of_ble_eq_true rfl, _, rfl, ?_⟩; (conv=>whnf))) | (((with_reducible first|refine NV.quo ?s ?_|refine NV.rem ?s ?_|refine NV.i64 ?s ?_|refine NV.u32 ?s ?_|refine NV.u8 ?s ?_|refine NV.u64 ?s ?_);case s=>omega)<;>(conv=>whnf)) | ((with_reducible first|refine NV.divk ?_|refine NV.modk ?_|refine NN.lit ?_|refine NN.cast ?_|refine NN.a1 ?_|refine NN.a2 ?_|refine NN.a3 ?_|refine NN.a4 ?_|refine NN.a5 ?_|refine NN.a6 ?_|refine NV.keep ?_|refine NN.keep ?_|refine NS.keep ?_|refine NIf.not_ ?_)<;>(conv=>whnf)) | (((with_reducible refine NH.mk ?s ?_);case s=>(and_intros <;> first | with_reducible rfl | omega | assumption | exact Nat.le_of_ble_eq_true rfl | (simp only [List.length_append, List.length_cons, List.length_nil]; omega) | rfl))<;>(conv=>whnf)) | (((with_reducible refine NIf.decY ?s ?_);case s=>first|with_reducible rfl|assumption|omega)<;>(conv=>whnf)) | (((with_reducible refine NIf.decN ?s ?_);case s=>first|with_reducible rfl|assumption|omega)<;>(conv=>whnf)) | (((with_reducible refine NIf.yes ?s ?_);case s=>first|rfl|assumption)<;>(conv=>whnf)) | (((with_reducible refine NIf.no ?s ?_);case s=>first|rfl|assumption)<;>(conv=>whnf)) | (((with_reducible refine NLd.of (by with_reducible assumption) ?_))<;>(conv=>whnf)) | ((refine NFlat_iff.2 ⟨⟨?s1,?s2⟩,?_⟩;(case s1=>decide +kernel);(case s2=>decide +kernel))<;>(conv=>whnf)) | ((with_reducible first|refine NIf.dec (fun _=>?_) (fun _=>?_)|refine NIf.both (fun _=>?_) (fun _=>?_))<;>(conv=>whnf)) | ((intro _;skip)<;>(conv=>whnf))))
      all_goals rfl
theorem matchReads_c (F : Heap) (hF : TabF F) (s : List UInt8) (hs : s.length ≤ 9223372036854775807) (a : Mt.M) (ha : a.in64) :
    NCall Tryd.prog 9 [.str s, .agg a.av] [hpB F] fun r _ => r = .bool true := by
  by_cases h : s.length ≤ 60
  · exact mr_core F hF s s (.inl ⟨rfl, h⟩) hs a ha
  · exact mr_core F hF s _ (.inr ⟨rfl, by omega⟩) hs a ha
end Go.Proofs.YtokbckflleaplaaDoor
