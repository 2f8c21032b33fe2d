/-
  Messages: the law of what is told and parsed.
-/
import Derived.Test.YtlcleiekeapkdaaPr12
namespace Go.Proofs.Ytlcleiekeapkdaa
open Go.Sx
set_option maxRecDepth 20000
set_option linter.unusedSimpArgs false
set_option linter.unusedVariables false
set_option maxHeartbeats 8000000
set_option linter.unusedVariables false
theorem Pr.code_le (x : Pr.Ms) (ho : Pr.ok x) : (Pr.code x).length ≤ 1700 := by
  have h1 := Pr.pre_len x 8 (Nat.le_refl _)
  have h2 := Pr.bodyTo_len ho.2.2.2.2 x.mods.length
  have h3 := ho.2.2.2.1
  unfold Pr.code
  split
  · rw [List.length_append]; omega
  · omega
theorem Pr.code_last (x : Pr.Ms) (hx : x.in64) (ho : Pr.ok x) : ∃ q b, Pr.code x = q ++ [b] ∧ q.length + 1 = (Pr.code x).length := by
  have h := Pr.code_ge x hx ho
  have hne : Pr.code x ≠ [] := fun e => by rw [e] at h; simp at h
  refine ⟨(Pr.code x).dropLast, (Pr.code x).getLast hne, (List.dropLast_concat_getLast hne).symm, ?_⟩
  rw [List.length_dropLast]
  omega
theorem protoBack_c (F : Heap) (x : Pr.Ms) (v : Value) (b : UInt8) (hv : Pr.MdRow F v x.mods) (hx : x.in64) :
    NCall Try.prog 4 [.agg (x.cs v), .int .u8 b.toNat] [hpB F] fun r _ => r = .bool true := by
  have ca := awake16_c F
  have r2 := refright16_c F v x hv hx
  by_cases ho : Pr.ok x
  · rw [decide_eq_true ho] at r2
    have d1 := code16_c F v x hv hx ho
    have hle := Pr.code_le x ho
    have hge := Pr.code_ge x hx ho
    obtain ⟨q, z, hq, hql⟩ := Pr.code_last x hx ho
    have hp1 := Pr.parse_code x hx ho
    have hp2 := Pr.parse_more x hx ho b
    have hp3 := Pr.parse_less x hx ho q z hq (by omega)
    have c1 : NCall Try.prog 15 [.str (Pr.code x)] [hpB F] fun w m => ∃ F' u, F.le F' ∧ Pr.MdRow F' u x.mods ∧ w = .tup [.agg (x.cs u), .int .i64 0] ∧ m = [hpB F'] := parse16_c F (Pr.code x) (by omega) _ hp1
    have c2 : ∀ G, NCall Try.prog 15 [.str (Pr.code x ++ [b])] [hpB G] fun w m => ∃ F' u, G.le F' ∧ Pr.MdRow F' u (Pr.parse (Pr.code x ++ [b])).1.mods ∧ w = .tup [.agg ((Pr.parse (Pr.code x ++ [b])).1.cs u), .int .i64 (Pr.parse (Pr.code x ++ [b])).2] ∧ m = [hpB F'] := fun G => parse16_c G (Pr.code x ++ [b]) (by rw [List.length_append, List.length_singleton]; omega) _ rfl
    have c3 : ∀ G, NCall Try.prog 15 [.str q] [hpB G] fun w m => ∃ F' u, G.le F' ∧ Pr.MdRow F' u (Pr.parse q).1.mods ∧ w = .tup [.agg ((Pr.parse q).1.cs u), .int .i64 (Pr.parse q).2] ∧ m = [hpB F'] := fun G => parse16_c G q (by omega) _ rfl
    have c4 : ∀ G u, F.le G → Pr.MdRow G u x.mods → NCall Try.prog 9 [.agg (x.cs u), .agg (x.cs v)] [hpB G] fun r m => r = .bool true ∧ m = [hpB G] := fun G u hG hu => by
      have := refsame16_c G u v x x hu (Pr.MdRow.mono hG hv) hx hx
      rwa [decide_eq_true ((Pr.same_eq x x).2 rfl)] at this
    have hcut : List.take (((Pr.code x).length : Int) - 1).toNat (Pr.code x) = q := by
      have : (((Pr.code x).length : Int) - 1).toNat = q.length := by omega
      rw [this, hq]
      simp
    generalize Pr.parse (Pr.code x ++ [b]) = P2 at *
    generalize Pr.parse q = P3 at *
    generalize Pr.code x = cd at *
    clear ho hp1 hv hx
    refine ncall_of Try.func4 rfl (by decide) ?_
    obtain ⟨k, sw, u, rd, t1, t2, life, of_, code, l⟩ := x
    obtain ⟨⟨k', sw', u', rd', t1', t2', life', of_', code', l'⟩, n2⟩ := P2
    obtain ⟨⟨k3, sw3, u3, rd3, t13, t23, life3, of3, code3, l3⟩, n3⟩ := P3
    simp only [ms_cs] at *
    (repeat' (first|(with_reducible first|(refine hK _ _ ?_;clear hK K)|(refine hA ?_;clear hA hB A B)|(refine hB ?_;clear hA hB A B)|(refine hK _ ?_;clear hK K))|((with_reducible refine gO ?_);(first|((with_reducible first|refine z25 ?_|refine z26 ?_);intro K hK;(conv=>whnf))|(with_reducible first|refine z0 ?_)))|((with_reducible refine gP ?_);(first|((with_reducible first|refine z27 ?_|refine z28 ?_);intro K hK;(conv=>whnf))|(with_reducible first|refine z24 ?_)))|((first|((with_reducible refine gV ?_);(first|((with_reducible first|refine NV.quo ?s ?_|refine NV.rem ?s ?_|refine NV.i64 ?s ?_|refine NV.u32 ?s ?_|refine NV.u8 ?s ?_|refine NV.u64 ?s ?_);case s=>omega)|(with_reducible first|refine NV.divk ?_|refine NV.modk ?_|refine NV.keep ?_)))|((with_reducible refine gI ?_);(first|with_reducible refine NIf.not_ ?_|((with_reducible refine NIf.decY ?s ?_);case s=>first|with_reducible rfl|assumption|omega)|((with_reducible refine NIf.decN ?s ?_);case s=>first|with_reducible rfl|assumption|omega)|((with_reducible refine NIf.yes ?s ?_);case s=>first|rfl|assumption)|((with_reducible refine NIf.no ?s ?_);case s=>first|rfl|assumption)|(with_reducible first|refine NIf.dec (fun _=>?_) (fun _=>?_)|refine NIf.both (fun _=>?_) (fun _=>?_))))|((with_reducible refine gN ?_);(with_reducible first|refine NN.lit ?_|refine NN.cast ?_|refine NN.a1 ?_|refine NN.a2 ?_|refine NN.a3 ?_|refine NN.a4 ?_|refine NN.a5 ?_|refine NN.a6 ?_|refine NN.keep ?_))|((with_reducible refine gH ?_);((with_reducible refine NH.mk ?s ?_);case s=>(and_intros<;>first|with_reducible rfl|((with_reducible refine gOnes ?_);rfl)|((with_reducible refine gLen ?_);rfl)|omega|assumption|exact Nat.le_of_ble_eq_true rfl|(simp only [List.length_append, List.length_cons, List.length_nil]; omega)|rfl)))|((with_reducible refine gC ?_);(first|((with_reducible refine NCall.isF 8 ?_);refine NCall.subE [0] (r2) rfl (by decide) rfl rfl ?_)|((with_reducible refine NCall.isF 13 ?_);refine NCall.subE [0] (d1) rfl (by decide) rfl rfl ?_)|((with_reducible refine NCall.isF 15 ?_);refine NCall.subw [0] _ _ (c1) rfl (by decide) rfl ?_; rintro _ _ ⟨G1, u1, hl1, hu1, rfl, rfl⟩; refine ⟨Nat.le_of_ble_eq_true rfl, _, rfl, ?_⟩)|((with_reducible refine NCall.isF 15 ?_);refine NCall.subw [0] _ _ (c2 _) rfl (by decide) rfl ?_; rintro _ _ ⟨G2, u2, hl2, hu2, rfl, rfl⟩; refine ⟨Nat.le_of_ble_eq_true rfl, _, rfl, ?_⟩)|((with_reducible refine NCall.isF 15 ?_);refine NCall.subw [0] _ _ (c3 _) rfl (by decide) rfl ?_; rintro _ _ ⟨G3, u3, hl3, hu3, rfl, rfl⟩; refine ⟨Nat.le_of_ble_eq_true rfl, _, rfl, ?_⟩)|((with_reducible refine NCall.isF 9 ?_);refine NCall.subE [0] (c4 _ _ ((hl1.trans hl2).trans hl3) (Pr.MdRow.mono (hl2.trans hl3) hu1)) rfl (by decide) rfl rfl ?_)|((with_reducible refine NCall.isF 6 ?_);refine NCall.subE [0] (awake16_c _) rfl (by decide) rfl rfl ?_)))|((with_reducible refine gS ?_);((with_reducible refine NS.eq (hcut) ?_)))|(with_reducible refine NS.keep ?_)|(with_reducible refine NLd.of (by with_reducible assumption) ?_))<;>(conv=>whnf))|(refine NBytes.mk [b] rfl ?_; conv => whnf)|((with_reducible refine gX ?_);(first|(with_reducible first|refine z3 ?_|refine z4 ?_|refine z5 ?_|refine z6 ?_|refine z7 ?_|refine z8 ?_|refine z14 ?_|refine z15 ?_)|((with_reducible refine z29 ?_);intro A B hA hB;(conv=>whnf))|(refine z34 (by kernel_rfl) (by kernel_rfl) ?_)))|(with_reducible first|refine z1 ?_|refine z2 ?_|refine z9 ?_|refine z10 ?_|refine z11 ?_|refine z12 ?_|refine z13 ?_|refine z16 ?_|refine z17 ?_|refine z18 ?_|refine z19 ?_|refine z20 ?_|refine z21 ?_|refine z22 ?_|refine z23 ?_)|((with_reducible refine gB ?_);(refine z30 (by decide) ?_))|((with_reducible refine gR ?_);((first|refine z31 rfl ?_|refine z32 rfl ?_);intro K hK;(conv=>whnf)))|((with_reducible refine gF ?_);((refine z33 rfl ?_);intro K hK;(conv=>whnf)))|((refine NFlat_iff.2 ⟨⟨?s1,?s2⟩,?_⟩;(case s1=>decide +kernel);(case s2=>decide +kernel))<;>(conv=>whnf))|((intro _;skip)<;>(conv=>whnf))))
    all_goals first
      | rfl
      | (exfalso; omega)
      | (exfalso; exact hp2 (by assumption))
      | (exfalso; exact hp3 (by assumption))
  · rw [decide_eq_false ho] at r2
    clear ho hv hx
    refine ncall_of Try.func4 rfl (by decide) ?_
    obtain ⟨k, sw, u, rd, t1, t2, life, of_, code, l⟩ := x
    simp only [ms_cs] at *
    (repeat' (first|(with_reducible first|(refine hK _ _ ?_;clear hK K)|(refine hA ?_;clear hA hB A B)|(refine hB ?_;clear hA hB A B)|(refine hK _ ?_;clear hK K))|((with_reducible refine gO ?_);(first|((with_reducible first|refine z25 ?_|refine z26 ?_);intro K hK;(conv=>whnf))|(with_reducible first|refine z0 ?_)))|((with_reducible refine gP ?_);(first|((with_reducible first|refine z27 ?_|refine z28 ?_);intro K hK;(conv=>whnf))|(with_reducible first|refine z24 ?_)))|((first|((with_reducible refine gV ?_);(first|((with_reducible first|refine NV.quo ?s ?_|refine NV.rem ?s ?_|refine NV.i64 ?s ?_|refine NV.u32 ?s ?_|refine NV.u8 ?s ?_|refine NV.u64 ?s ?_);case s=>omega)|(with_reducible first|refine NV.divk ?_|refine NV.modk ?_|refine NV.keep ?_)))|((with_reducible refine gI ?_);(first|with_reducible refine NIf.not_ ?_|((with_reducible refine NIf.decY ?s ?_);case s=>first|with_reducible rfl|assumption|omega)|((with_reducible refine NIf.decN ?s ?_);case s=>first|with_reducible rfl|assumption|omega)|((with_reducible refine NIf.yes ?s ?_);case s=>first|rfl|assumption)|((with_reducible refine NIf.no ?s ?_);case s=>first|rfl|assumption)|(with_reducible first|refine NIf.dec (fun _=>?_) (fun _=>?_)|refine NIf.both (fun _=>?_) (fun _=>?_))))|((with_reducible refine gN ?_);(with_reducible first|refine NN.lit ?_|refine NN.cast ?_|refine NN.a1 ?_|refine NN.a2 ?_|refine NN.a3 ?_|refine NN.a4 ?_|refine NN.a5 ?_|refine NN.a6 ?_|refine NN.keep ?_))|((with_reducible refine gH ?_);((with_reducible refine NH.mk ?s ?_);case s=>(and_intros<;>first|with_reducible rfl|((with_reducible refine gOnes ?_);rfl)|((with_reducible refine gLen ?_);rfl)|omega|assumption|exact Nat.le_of_ble_eq_true rfl|(simp only [List.length_append, List.length_cons, List.length_nil]; omega)|rfl)))|((with_reducible refine gC ?_);(first|((with_reducible refine NCall.isF 8 ?_);refine NCall.subE [0] (r2) rfl (by decide) rfl rfl ?_)|((with_reducible refine NCall.isF 6 ?_);refine NCall.subE [0] (ca) rfl (by decide) rfl rfl ?_)))|(with_reducible refine NS.keep ?_)|(with_reducible refine NLd.of (by with_reducible assumption) ?_))<;>(conv=>whnf))|((with_reducible refine gX ?_);(first|(with_reducible first|refine z3 ?_|refine z4 ?_|refine z5 ?_|refine z6 ?_|refine z7 ?_|refine z8 ?_|refine z14 ?_|refine z15 ?_)|((with_reducible refine z29 ?_);intro A B hA hB;(conv=>whnf))|(refine z34 (by kernel_rfl) (by kernel_rfl) ?_)))|(with_reducible first|refine z1 ?_|refine z2 ?_|refine z9 ?_|refine z10 ?_|refine z11 ?_|refine z12 ?_|refine z13 ?_|refine z16 ?_|refine z17 ?_|refine z18 ?_|refine z19 ?_|refine z20 ?_|refine z21 ?_|refine z22 ?_|refine z23 ?_)|((with_reducible refine gB ?_);(refine z30 (by decide) ?_))|((with_reducible refine gR ?_);((first|refine z31 rfl ?_|refine z32 rfl ?_);intro K hK;(conv=>whnf)))|((with_reducible refine gF ?_);((refine z33 rfl ?_);intro K hK;(conv=>whnf)))|((refine NFlat_iff.2 ⟨⟨?s1,?s2⟩,?_⟩;(case s1=>decide +kernel);(case s2=>decide +kernel))<;>(conv=>whnf))|((intro _;skip)<;>(conv=>whnf))))
    all_goals rfl
theorem protoBack_w (F : Heap) (x : Pr.Ms) (v : Value) (n : Int) (hn : 0 ≤ n ∧ n ≤ 255) (hv : Pr.MdRow F v x.mods) (hx : x.in64) :
    NCall Try.prog 4 [.agg (x.cs v), .int .u8 n] [hpB F] fun r _ => r = .bool true := by
  have e : (((UInt8.ofNat n.toNat).toNat : Nat) : Int) = n := by
    have : (UInt8.ofNat n.toNat).toNat = n.toNat % 256 := by simp
    rw [this]
    omega
  have := protoBack_c F x v (UInt8.ofNat n.toNat) hv hx
  rwa [e] at this
end Go.Proofs.Ytlcleiekeapkdaa

