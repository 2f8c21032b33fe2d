/-
  Rules, read of both readers.
-/
import Derived.Test.YtlcleiekeapkdaaRu1
import Derived.Test.YtlcleiekeapkdaaAc4
namespace Go.Proofs.Ytlcleiekeapkdaa
open Go.Sx
set_option maxRecDepth 20000
set_option linter.unusedSimpArgs false
set_option linter.unusedVariables false
set_option maxHeartbeats 2000000
set_option linter.unusedVariables false
theorem read8m_c (a : Addr) (r : Oct.R) (h : r.ok) : NCall Try.prog 66 [.ptr 0 a 0] [RB a r] fun v m => v = .agg (Mt.rdV r).av ∧ m = [RB a (Mt.rdR r)] :=
  (read8_raw a r h).fits fun r' m' e => ⟨r', _, rfl, e.2, e.1, rfl⟩
theorem read9m_c (a : Addr) (r : Oct.R) (h : r.ok) (ports : Int) : NCall Try.prog 67 [.ptr 0 a 0, .int .i64 ports] [RB a r] fun v m => ∃ u, v = .sl 1 u (Ac.rdList ports r).length ∧ m = [RB a (Ac.rdEnd ports r), actRow u (Ac.rdList ports r)] :=
  (read9_raw a r h ports).fits fun r' m' ⟨u, e1, e2⟩ => ⟨.sl 1 u (Ac.rdList ports r).length, _, e1.symm, e2, u, rfl, rfl⟩
namespace Ru
def rdE (ports : Int) (r : Oct.R) : Oct.R := Ac.rdEnd ports (Mt.rdR (r.num 2).2)
def rdX (ports : Int) (r : Oct.R) : R := if (rdE ports r).bad = 0 then ⟨(r.num 2).1, Mt.rdV (r.num 2).2, Ac.rdList ports (Mt.rdR (r.num 2).2)⟩ else ⟨0, ⟨0, 0, 0, 0, 0, 0, 0, 0, 0⟩, []⟩
theorem rdE_ok {ports : Int} {r : Oct.R} (h : r.ok) : (rdE ports r).ok := Ac.rdEnd_ok (Mt.rdR_ok (Oct.R.num_keeps h))
end Ru
/-- What is handed back with a row of its own, told as what is read alone. -/
theorem rule_know {f : FuncId} {args : List AV} {F : Heap} {x : Ru.R} {b b' : Blk}
    (h : NCall Try.prog f args [hpB F, b] fun r m' => ∃ u, r.den = (AV.agg (x.cs u)).den ∧ MemFits m' [hpB F, actRow u x.acts, b']) :
    NCall Try.prog f args [hpB F, b] fun r m' => ∃ F' u, F.le F' ∧ Ru.RowA F' u x ∧ r = .agg (x.cs u) ∧ m' = [hpB F', b'] := by
  refine Go.Sx.NCall.know h fun r m' ⟨u, hr, hm⟩ ⟨w, hw⟩ => ?_
  have hok := ((hm w hw).1.row (List.mem_cons_of_mem _ (List.mem_cons_self ..))).1
  exact ⟨_, _, hr.symm, hm.trans (MemFits.freeze (m := [b'])), _, u, addF.old, rowF_new (enc := Ac.actV) hok (Ac.avs_den _) (fun x _ => rfl), rfl, rfl⟩
theorem read10_c (F : Heap) (a : Addr) (r : Oct.R) (h : r.ok) (ports : Int) : NCall Try.prog 55 [.ptr 1 a 0, .int .i64 ports] [hpB F, RB a r] fun v m =>
    ∃ F' u, F.le F' ∧ Ru.RowA F' u (Ru.rdX ports r) ∧ v = .agg ((Ru.rdX ports r).cs u) ∧ m = [hpB F', RB a (Ru.rdE ports r)] := by
  have h1 := Oct.R.num_keeps (w := 2) h
  have h2 := Mt.rdR_ok h1
  have c1 := rnum_c a r 2 h (by decide)
  have c2 := read8m_c a _ h1
  have c3 := read9m_c a _ h2 ports
  have c4 := rok_c a (Ru.rdE ports r)
  have eX : Ru.rdX ports r = if (Ru.rdE ports r).bad = 0 then ⟨(r.num 2).1, Mt.rdV (r.num 2).2, Ac.rdList ports (Mt.rdR (r.num 2).2)⟩ else ⟨0, ⟨0, 0, 0, 0, 0, 0, 0, 0, 0⟩, []⟩ := rfl
  have eE : Ac.rdEnd ports (Mt.rdR (r.num 2).2) = Ru.rdE ports r := rfl
  rw [eE] at c3
  generalize Ru.rdX ports r = X at *
  generalize Ru.rdE ports r = E at *
  generalize Ac.rdList ports (Mt.rdR (r.num 2).2) = L at *
  generalize Mt.rdR (r.num 2).2 = r2 at *
  generalize Mt.rdV (r.num 2).2 = V at *
  generalize (r.num 2).2 = r1 at *
  generalize (r.num 2).1 = p at *
  obtain ⟨q, v0, v1, v2, v3, m0, m1, m2, m3⟩ := V
  simp only [Mt.M.av] at c2
  by_cases hb : E.bad = 0
  · rw [if_pos hb] at eX
    rw [decide_eq_true hb] at c4
    subst eX
    refine rule_know ?_
    refine ncall_of Try.func55 rfl (by decide) ?_
    (repeat' (first|(with_reducible first|(refine hK _ _ ?_;clear hK K)|(refine hA ?_;clear hA hB A B)|(refine hB ?_;clear hA hB A B)|(refine hK _ ?_;clear hK K))|((with_reducible refine gO ?_);(first|((with_reducible first|refine z25 ?_|refine z26 ?_);intro K hK;(conv=>whnf))|(with_reducible first|refine z0 ?_)))|((with_reducible refine gP ?_);(first|((with_reducible first|refine z27 ?_|refine z28 ?_);intro K hK;(conv=>whnf))|(with_reducible first|refine z24 ?_)))|((first|((with_reducible refine gV ?_);(first|((with_reducible first|refine NV.quo ?s ?_|refine NV.rem ?s ?_|refine NV.i64 ?s ?_|refine NV.u32 ?s ?_|refine NV.u8 ?s ?_|refine NV.u64 ?s ?_);case s=>omega)|(with_reducible first|refine NV.divk ?_|refine NV.modk ?_|refine NV.keep ?_)))|((with_reducible refine gI ?_);(first|with_reducible refine NIf.not_ ?_|((with_reducible refine NIf.decY ?s ?_);case s=>first|with_reducible rfl|assumption|omega)|((with_reducible refine NIf.decN ?s ?_);case s=>first|with_reducible rfl|assumption|omega)|((with_reducible refine NIf.yes ?s ?_);case s=>first|rfl|assumption)|((with_reducible refine NIf.no ?s ?_);case s=>first|rfl|assumption)|(with_reducible first|refine NIf.dec (fun _=>?_) (fun _=>?_)|refine NIf.both (fun _=>?_) (fun _=>?_))))|((with_reducible refine gN ?_);(with_reducible first|refine NN.lit ?_|refine NN.cast ?_|refine NN.a1 ?_|refine NN.a2 ?_|refine NN.a3 ?_|refine NN.a4 ?_|refine NN.a5 ?_|refine NN.a6 ?_|refine NN.keep ?_))|((with_reducible refine gH ?_);((with_reducible refine NH.mk ?s ?_);case s=>(and_intros<;>first|with_reducible rfl|((with_reducible refine gOnes ?_);rfl)|((with_reducible refine gLen ?_);rfl)|omega|assumption|exact Nat.le_of_ble_eq_true rfl|(simp only [List.length_append, List.length_cons, List.length_nil]; omega)|rfl)))|((with_reducible refine gC ?_);(first|((with_reducible refine NCall.isF 34 ?_);refine NCall.subE [1] (c1) rfl (by decide) rfl rfl ?_)|((with_reducible refine NCall.isF 66 ?_);refine NCall.subE [1] (c2) rfl (by decide) rfl rfl ?_)|((with_reducible refine NCall.isF 67 ?_);refine NCall.subw [1] _ _ (c3) rfl (by decide) rfl ?_; rintro _ _ ⟨u, rfl, rfl⟩; refine ⟨Nat.le_of_ble_eq_true rfl, .sl 3 u L.length, rfl, ?_⟩)|((with_reducible refine NCall.isF 37 ?_);refine NCall.subE [1] (c4) rfl (by decide) rfl rfl ?_)))|(with_reducible refine NS.keep ?_)|(with_reducible refine NLd.of (by with_reducible assumption) ?_))<;>(conv=>whnf))|((with_reducible refine gX ?_);(first|(with_reducible first|refine z3 ?_|refine z4 ?_|refine z5 ?_|refine z6 ?_|refine z7 ?_|refine z8 ?_|refine z14 ?_|refine z15 ?_)|((with_reducible refine z29 ?_);intro A B hA hB;(conv=>whnf))|(refine z34 (by kernel_rfl) (by kernel_rfl) ?_)))|(with_reducible first|refine z1 ?_|refine z2 ?_|refine z9 ?_|refine z10 ?_|refine z11 ?_|refine z12 ?_|refine z13 ?_|refine z16 ?_|refine z17 ?_|refine z18 ?_|refine z19 ?_|refine z20 ?_|refine z21 ?_|refine z22 ?_|refine z23 ?_)|((with_reducible refine gB ?_);(refine z30 (by decide) ?_))|((with_reducible refine gR ?_);((first|refine z31 rfl ?_|refine z32 rfl ?_);intro K hK;(conv=>whnf)))|((with_reducible refine gF ?_);((refine z33 rfl ?_);intro K hK;(conv=>whnf)))|((refine NFlat_iff.2 ⟨⟨?s1,?s2⟩,?_⟩;(case s1=>decide +kernel);(case s2=>decide +kernel))<;>(conv=>whnf))|((intro _;skip)<;>(conv=>whnf))))
    all_goals exact ⟨u, rfl, MemFits.pick [0, 3, 1] (by decide) rfl⟩
  · rw [if_neg hb] at eX
    rw [decide_eq_false hb] at c4
    subst eX
    refine NCall.fits (K := fun v m => v.den = (AV.agg ((⟨0, ⟨0, 0, 0, 0, 0, 0, 0, 0, 0⟩, []⟩ : Ru.R).cs (.slice none 0 0))).den ∧ MemFits m [hpB F, RB a E]) ?_ fun r m' e => ⟨_, _, e.1.symm, e.2, F, .slice none 0 0, F.le_refl, RowF.nil, rfl, rfl⟩
    refine ncall_of Try.func55 rfl (by decide) ?_
    (repeat' (first|(with_reducible first|(refine hK _ _ ?_;clear hK K)|(refine hA ?_;clear hA hB A B)|(refine hB ?_;clear hA hB A B)|(refine hK _ ?_;clear hK K))|((with_reducible refine gO ?_);(first|((with_reducible first|refine z25 ?_|refine z26 ?_);intro K hK;(conv=>whnf))|(with_reducible first|refine z0 ?_)))|((with_reducible refine gP ?_);(first|((with_reducible first|refine z27 ?_|refine z28 ?_);intro K hK;(conv=>whnf))|(with_reducible first|refine z24 ?_)))|((first|((with_reducible refine gV ?_);(first|((with_reducible first|refine NV.quo ?s ?_|refine NV.rem ?s ?_|refine NV.i64 ?s ?_|refine NV.u32 ?s ?_|refine NV.u8 ?s ?_|refine NV.u64 ?s ?_);case s=>omega)|(with_reducible first|refine NV.divk ?_|refine NV.modk ?_|refine NV.keep ?_)))|((with_reducible refine gI ?_);(first|with_reducible refine NIf.not_ ?_|((with_reducible refine NIf.decY ?s ?_);case s=>first|with_reducible rfl|assumption|omega)|((with_reducible refine NIf.decN ?s ?_);case s=>first|with_reducible rfl|assumption|omega)|((with_reducible refine NIf.yes ?s ?_);case s=>first|rfl|assumption)|((with_reducible refine NIf.no ?s ?_);case s=>first|rfl|assumption)|(with_reducible first|refine NIf.dec (fun _=>?_) (fun _=>?_)|refine NIf.both (fun _=>?_) (fun _=>?_))))|((with_reducible refine gN ?_);(with_reducible first|refine NN.lit ?_|refine NN.cast ?_|refine NN.a1 ?_|refine NN.a2 ?_|refine NN.a3 ?_|refine NN.a4 ?_|refine NN.a5 ?_|refine NN.a6 ?_|refine NN.keep ?_))|((with_reducible refine gH ?_);((with_reducible refine NH.mk ?s ?_);case s=>(and_intros<;>first|with_reducible rfl|((with_reducible refine gOnes ?_);rfl)|((with_reducible refine gLen ?_);rfl)|omega|assumption|exact Nat.le_of_ble_eq_true rfl|(simp only [List.length_append, List.length_cons, List.length_nil]; omega)|rfl)))|((with_reducible refine gC ?_);(first|((with_reducible refine NCall.isF 34 ?_);refine NCall.subE [1] (c1) rfl (by decide) rfl rfl ?_)|((with_reducible refine NCall.isF 66 ?_);refine NCall.subE [1] (c2) rfl (by decide) rfl rfl ?_)|((with_reducible refine NCall.isF 67 ?_);refine NCall.subw [1] _ _ (c3) rfl (by decide) rfl ?_; rintro _ _ ⟨u, rfl, rfl⟩; refine ⟨Nat.le_of_ble_eq_true rfl, .sl 3 u L.length, rfl, ?_⟩)|((with_reducible refine NCall.isF 37 ?_);refine NCall.subE [1] (c4) rfl (by decide) rfl rfl ?_)))|(with_reducible refine NS.keep ?_)|(with_reducible refine NLd.of (by with_reducible assumption) ?_))<;>(conv=>whnf))|((with_reducible refine gX ?_);(first|(with_reducible first|refine z3 ?_|refine z4 ?_|refine z5 ?_|refine z6 ?_|refine z7 ?_|refine z8 ?_|refine z14 ?_|refine z15 ?_)|((with_reducible refine z29 ?_);intro A B hA hB;(conv=>whnf))|(refine z34 (by kernel_rfl) (by kernel_rfl) ?_)))|(with_reducible first|refine z1 ?_|refine z2 ?_|refine z9 ?_|refine z10 ?_|refine z11 ?_|refine z12 ?_|refine z13 ?_|refine z16 ?_|refine z17 ?_|refine z18 ?_|refine z19 ?_|refine z20 ?_|refine z21 ?_|refine z22 ?_|refine z23 ?_)|((with_reducible refine gB ?_);(refine z30 (by decide) ?_))|((with_reducible refine gR ?_);((first|refine z31 rfl ?_|refine z32 rfl ?_);intro K hK;(conv=>whnf)))|((with_reducible refine gF ?_);((refine z33 rfl ?_);intro K hK;(conv=>whnf)))|((refine NFlat_iff.2 ⟨⟨?s1,?s2⟩,?_⟩;(case s1=>decide +kernel);(case s2=>decide +kernel))<;>(conv=>whnf))|((intro _;skip)<;>(conv=>whnf))))
    all_goals exact ⟨rfl, MemFits.pick [0, 1] (by decide) rfl⟩
end Go.Proofs.Ytlcleiekeapkdaa

