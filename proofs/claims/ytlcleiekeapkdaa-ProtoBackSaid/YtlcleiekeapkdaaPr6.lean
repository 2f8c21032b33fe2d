/-
  Messages: their bytes.
-/
import Derived.Test.YtlcleiekeapkdaaPr5
namespace Go.Proofs.Ytlcleiekeapkdaa
open Go.Sx
set_option maxRecDepth 20000
set_option linter.unusedSimpArgs false
set_option linter.unusedVariables false
set_option maxHeartbeats 4000000
set_option linter.unusedVariables false
namespace Pr
def ofM (m : Mt.M) : Mt.N := ⟨m.p, m.v0.toNat, m.v1.toNat, m.v2.toNat, m.v3.toNat, m.m0.toNat, m.m1.toNat, m.m2.toNat, m.m3.toNat⟩
theorem ofM_is {m : Mt.M} (h : m.ok) : m = (ofM m).toM ∧ (ofM m).ok := by
  obtain ⟨y, rfl⟩ := Mt.M.toN h
  have e : ofM y.toM = y := rfl
  rw [e]
  exact ⟨rfl, (Mt.N.ok_iff y).1 h⟩
def i8 (n : Int) : List UInt8 := Oct.be (n % 18446744073709551616).toNat 8
theorem i8_len (n : Int) : (i8 n).length = 8 := Oct.be_len _ _
/-- A change's bytes. -/
def mdCode (x : Md) : List UInt8 := Oct.num x.k 1 ++ ((if x.chk then [1] else [0]) ++ Ru.code x.r (ofM x.r.m))
def bodyTo (l : List Md) (k : Nat) : List UInt8 := (l.take k).flatMap mdCode
theorem rucode_len (r : Ru.R) (a : Mt.N) : (Ru.code r a).length ≤ 12 + 3 * r.acts.length := by
  have l1 := num2_len r.prio
  have l2 := codeTo_len a 4
  have l3 := accode_len r.acts
  have he : Ru.code r a = Oct.num r.prio 2 ++ Mt.codeTo a 4 ++ Ac.code r.acts := rfl
  rw [he]
  simp only [List.length_append]
  omega
theorem mdCode_len {x : Md} (h : okMd x) : (mdCode x).length ≤ 100 := by
  have h1 := rucode_len x.r (ofM x.r.m)
  have h2 := num1_len x.k
  have h3 : x.r.acts.length ≤ 16 := h.2.2.2.2.1
  have h4 : (if x.chk then [1] else [0] : List UInt8).length = 1 := by cases x.chk <;> rfl
  unfold mdCode
  simp only [List.length_append, h4]
  omega
theorem bodyTo_len {l : List Md} (h : ∀ y ∈ l, okMd y) : ∀ k, (bodyTo l k).length ≤ 100 * l.length := fun k => by
  unfold bodyTo
  have : ∀ l : List Md, (∀ y ∈ l, okMd y) → (l.flatMap mdCode).length ≤ 100 * l.length := fun l => by
    induction l with
    | nil => simp
    | cons x l ih =>
      intro h
      have h1 := mdCode_len (h x (by simp))
      have h2 := ih fun y hy => h y (by simp [hy])
      rw [List.flatMap_cons, List.length_append, List.length_cons]
      omega
  have h2 := this (l.take k) fun y hy => h y (List.mem_of_mem_take hy)
  have h3 : (l.take k).length ≤ l.length := by rw [List.length_take]; omega
  omega
theorem bodyTo_next {l : List Md} {k : Nat} (h : k < l.length) : bodyTo l (k + 1) = bodyTo l k ++ mdCode l[k] := by
  unfold bodyTo
  rw [List.take_add_one, List.getElem?_eq_getElem h, List.flatMap_append]
  simp
/-- A message's bytes, as far as the parts that each kind may have. -/
def pre0 (x : Ms) : List UInt8 := Oct.num x.k 1 ++ Oct.num x.sw 1
def pre1 (x : Ms) : List UInt8 := if x.k = 1 ∨ x.k = 2 then pre0 x ++ i8 x.t1 else pre0 x
def pre2 (x : Ms) : List UInt8 := if x.k = 2 ∨ x.k = 4 then pre1 x ++ i8 x.t2 else pre1 x
def pre3 (x : Ms) : List UInt8 := if x.k = 2 ∨ x.k = 7 ∨ x.k = 8 then pre2 x ++ Oct.num x.life 2 else pre2 x
def pre4 (x : Ms) : List UInt8 := if 3 ≤ x.k ∧ x.k ≤ 8 then pre3 x ++ Oct.num x.u 2 else pre3 x
def pre5 (x : Ms) : List UInt8 := if (3 ≤ x.k ∧ x.k ≤ 8) ∧ x.k ≠ 6 then pre4 x ++ Oct.num (x.rd + 1) 1 else pre4 x
def pre6 (x : Ms) : List UInt8 := if x.k = 7 ∨ x.k = 8 then pre5 x ++ Oct.num x.of_ 1 else pre5 x
def pre7 (x : Ms) : List UInt8 := if x.k = 6 ∨ x.k = 8 then pre6 x ++ Oct.num x.code 1 else pre6 x
def pre8 (x : Ms) : List UInt8 := if x.k = 3 then pre7 x ++ Oct.num x.mods.length 1 else pre7 x
def pre (x : Ms) : Nat → List UInt8
  | 0 => pre0 x
  | 1 => pre1 x
  | 2 => pre2 x
  | 3 => pre3 x
  | 4 => pre4 x
  | 5 => pre5 x
  | 6 => pre6 x
  | 7 => pre7 x
  | _ => pre8 x
def code (x : Ms) : List UInt8 := if x.k = 3 then pre x 8 ++ bodyTo x.mods x.mods.length else pre x 8
theorem pre_len (x : Ms) : ∀ i, i ≤ 8 → (pre x i).length ≤ 30 := by
  have a0 := num1_len x.k
  have a1 := num1_len x.sw
  have a2 := i8_len x.t1
  have a3 := i8_len x.t2
  have a4 := num2_len x.life
  have a5 := num2_len x.u
  have a6 := num1_len (x.rd + 1)
  have a7 := num1_len x.of_
  have a8 := num1_len x.code
  have a9 := num1_len x.mods.length
  have p0 : (pre0 x).length ≤ 2 := by simp only [pre0, List.length_append]; omega
  have p1 : (pre1 x).length ≤ 10 := by unfold pre1; split <;> (try simp only [List.length_append]) <;> omega
  have p2 : (pre2 x).length ≤ 18 := by unfold pre2; split <;> (try simp only [List.length_append]) <;> omega
  have p3 : (pre3 x).length ≤ 20 := by unfold pre3; split <;> (try simp only [List.length_append]) <;> omega
  have p4 : (pre4 x).length ≤ 22 := by unfold pre4; split <;> (try simp only [List.length_append]) <;> omega
  have p5 : (pre5 x).length ≤ 23 := by unfold pre5; split <;> (try simp only [List.length_append]) <;> omega
  have p6 : (pre6 x).length ≤ 24 := by unfold pre6; split <;> (try simp only [List.length_append]) <;> omega
  have p7 : (pre7 x).length ≤ 25 := by unfold pre7; split <;> (try simp only [List.length_append]) <;> omega
  have p8 : (pre8 x).length ≤ 26 := by unfold pre8; split <;> (try simp only [List.length_append]) <;> omega
  intro i hi
  have : i = 0 ∨ i = 1 ∨ i = 2 ∨ i = 3 ∨ i = 4 ∨ i = 5 ∨ i = 6 ∨ i = 7 ∨ i = 8 := by omega
  rcases this with rfl | rfl | rfl | rfl | rfl | rfl | rfl | rfl | rfl <;> (simp only [pre]; omega)
end Pr
theorem change16_c (F : Heap) (v : Value) (x : Pr.Md) (hv : Ru.RowA F v x.r) (hx : x.in64) (ho : Pr.okMd x) : NCall Try.prog 32 [.agg (Pr.mdC x v)] [hpB F] fun r m => r = .str (Pr.mdCode x) ∧ m = [hpB F] := by
  obtain ⟨ha, hao⟩ := Pr.ofM_is ho.2.2.2.1
  have hl : x.r.acts.length ≤ 16 := ho.2.2.2.2.1
  have c1 := refnum_c x.k 1 hx.1 (by decide)
  have c2 := refcode10_c F v x.r hv hx.2 (by omega) _ ha hao
  have l1 := num1_len x.k
  have l2 := Pr.rucode_len x.r (Pr.ofM x.r.m)
  have he : Pr.mdCode x = Oct.num x.k 1 ++ ((if x.chk then [1] else [0]) ++ Ru.code x.r (Pr.ofM x.r.m)) := rfl
  generalize Pr.mdCode x = cc at *
  generalize Ru.code x.r (Pr.ofM x.r.m) = s2 at *
  generalize Oct.num x.k 1 = s1 at *
  clear ha hao ho
  refine NCall.fits (K := fun r m => r = .str cc ∧ MemFits m [hpB F]) ?_ fun r m' h => ⟨r, _, rfl, h.2, h.1, rfl⟩
  refine ncall_of Try.func32 rfl (by decide) ?_
  obtain ⟨k, ⟨p, ⟨q, v0, v1, v2, v3, m0, m1, m2, m3⟩, l⟩, c⟩ := x
  simp only [ru_cs, md_cs] at *
  cases c
  · (repeat' (first|(with_reducible first|(refine hK _ _ ?_;clear hK K)|(refine hA ?_;clear hA hB A B)|(refine hB ?_;clear hA hB A B)|(refine hK _ ?_;clear hK K))|((with_reducible refine gO ?_);(first|((with_reducible first|refine z25 ?_|refine z26 ?_);intro K hK;(conv=>whnf))|(with_reducible first|refine z0 ?_)))|((first|((with_reducible refine gV ?_);(first|((with_reducible first|refine NV.quo ?s ?_|refine NV.rem ?s ?_|refine NV.i64 ?s ?_|refine NV.u32 ?s ?_|refine NV.u8 ?s ?_|refine NV.u64 ?s ?_);case s=>omega)|(with_reducible first|refine NV.divk ?_|refine NV.modk ?_|refine NV.keep ?_)))|((with_reducible refine gI ?_);(first|with_reducible refine NIf.not_ ?_|((with_reducible refine NIf.decY ?s ?_);case s=>first|with_reducible rfl|assumption|omega)|((with_reducible refine NIf.decN ?s ?_);case s=>first|with_reducible rfl|assumption|omega)|((with_reducible refine NIf.yes ?s ?_);case s=>first|rfl|assumption)|((with_reducible refine NIf.no ?s ?_);case s=>first|rfl|assumption)|(with_reducible first|refine NIf.dec (fun _=>?_) (fun _=>?_)|refine NIf.both (fun _=>?_) (fun _=>?_))))|((with_reducible refine gN ?_);(with_reducible first|refine NN.lit ?_|refine NN.cast ?_|refine NN.a1 ?_|refine NN.a2 ?_|refine NN.a3 ?_|refine NN.a4 ?_|refine NN.a5 ?_|refine NN.a6 ?_|refine NN.keep ?_))|((with_reducible refine gH ?_);((with_reducible refine NH.mk ?s ?_);case s=>(and_intros<;>first|with_reducible rfl|((with_reducible refine gOnes ?_);rfl)|((with_reducible refine gLen ?_);rfl)|((with_reducible refine gKept ?_);exact rfl)|omega|assumption|exact Nat.le_of_ble_eq_true rfl|(simp only [List.length_append, List.length_cons, List.length_nil]; omega)|rfl)))|((with_reducible refine gC ?_);(first|((with_reducible refine NCall.isF 30 ?_);refine NCall.pureE (c1) ?_)|((with_reducible refine NCall.isF 49 ?_);refine NCall.subE [0] (c2) rfl (by decide) rfl rfl ?_)))|(with_reducible refine NS.keep ?_)|(with_reducible refine NLd.of (by with_reducible assumption) ?_))<;>(conv=>whnf))|((with_reducible refine gNRK ?_);(first|((with_reducible refine st_ordS1 ?s1 ?s2 ?s3 ?_); (case s1 => kernel_rfl); (case s2 => kernel_rfl); (case s3 => exact rfl); intro K hK; (conv=>whnf))|((with_reducible refine st_ordS1g ?s1 ?s2 ?s3 ?_); (case s1 => kernel_rfl); (case s2 => kernel_rfl); (case s3 => exact rfl); intro K hK; (conv=>whnf))|((with_reducible refine st_ordS2 ?s2 ?_); (case s2 => kernel_rfl); intro K hK; (conv=>whnf))|((with_reducible refine st_ordS2g ?s2 ?s3 ?_); (case s2 => kernel_rfl); (case s3 => exact rfl); intro K hK; (conv=>whnf))|((with_reducible refine st_ordS0 ?s2 ?_); (case s2 => kernel_rfl))|(with_reducible refine st_ordSout ?_)))|((with_reducible refine gNOK ?_);(first|(refine st_ordK1 rfl (by kernel_rfl) rfl ?_; intro K hK; (conv=>whnf))|(refine st_ordK1g rfl (by kernel_rfl) rfl ?_; intro K hK; (conv=>whnf))|(refine st_ordK0 rfl (by kernel_rfl) ?_)|(refine st_ordKA rfl rfl (by kernel_rfl) (by intro h; cases h) ?_)))|((with_reducible refine gNEK ?_);(first|(refine st_eachK ?_ ?_; (intro K hK; (conv=>whnf)))|(refine st_eachKg rfl ?_ ?_; (intro K hK; (conv=>whnf)))|exact st_eachK0))|((with_reducible refine gX ?_);(first|(refine st_orderS [] rfl rfl (by kernel_rfl) _ rfl ?_)|(with_reducible first|refine z3 ?_|refine z4 ?_|refine z5 ?_|refine z6 ?_|refine z7 ?_|refine z8 ?_|refine z14 ?_|refine z15 ?_)|((with_reducible refine z29 ?_);intro A B hA hB;(conv=>whnf))))|(with_reducible first|refine z1 ?_|refine z2 ?_|refine z9 ?_|refine z10 ?_|refine z11 ?_|refine z12 ?_|refine z13 ?_|refine z16 ?_|refine z17 ?_|refine z18 ?_|refine z19 ?_|refine z20 ?_|refine z21 ?_|refine z22 ?_|refine z23 ?_)|((with_reducible refine gB ?_);(refine z30 (by decide) ?_))|((with_reducible refine gR ?_);((first|refine z31 rfl ?_|refine z32 rfl ?_);intro K hK;(conv=>whnf)))|((with_reducible refine gF ?_);((refine z33 rfl ?_);intro K hK;(conv=>whnf)))|((refine NFlat_iff.2 ⟨⟨?s1,?s2⟩,?_⟩;(case s1=>decide +kernel);(case s2=>decide +kernel))<;>(conv=>whnf))|((intro _;skip)<;>(conv=>whnf))))
    all_goals exact ⟨by rw [he]; simp, MemFits.pre 1 rfl⟩
  · (repeat' (first|(with_reducible first|(refine hK _ _ ?_;clear hK K)|(refine hA ?_;clear hA hB A B)|(refine hB ?_;clear hA hB A B)|(refine hK _ ?_;clear hK K))|((with_reducible refine gO ?_);(first|((with_reducible first|refine z25 ?_|refine z26 ?_);intro K hK;(conv=>whnf))|(with_reducible first|refine z0 ?_)))|((first|((with_reducible refine gV ?_);(first|((with_reducible first|refine NV.quo ?s ?_|refine NV.rem ?s ?_|refine NV.i64 ?s ?_|refine NV.u32 ?s ?_|refine NV.u8 ?s ?_|refine NV.u64 ?s ?_);case s=>omega)|(with_reducible first|refine NV.divk ?_|refine NV.modk ?_|refine NV.keep ?_)))|((with_reducible refine gI ?_);(first|with_reducible refine NIf.not_ ?_|((with_reducible refine NIf.decY ?s ?_);case s=>first|with_reducible rfl|assumption|omega)|((with_reducible refine NIf.decN ?s ?_);case s=>first|with_reducible rfl|assumption|omega)|((with_reducible refine NIf.yes ?s ?_);case s=>first|rfl|assumption)|((with_reducible refine NIf.no ?s ?_);case s=>first|rfl|assumption)|(with_reducible first|refine NIf.dec (fun _=>?_) (fun _=>?_)|refine NIf.both (fun _=>?_) (fun _=>?_))))|((with_reducible refine gN ?_);(with_reducible first|refine NN.lit ?_|refine NN.cast ?_|refine NN.a1 ?_|refine NN.a2 ?_|refine NN.a3 ?_|refine NN.a4 ?_|refine NN.a5 ?_|refine NN.a6 ?_|refine NN.keep ?_))|((with_reducible refine gH ?_);((with_reducible refine NH.mk ?s ?_);case s=>(and_intros<;>first|with_reducible rfl|((with_reducible refine gOnes ?_);rfl)|((with_reducible refine gLen ?_);rfl)|((with_reducible refine gKept ?_);exact rfl)|omega|assumption|exact Nat.le_of_ble_eq_true rfl|(simp only [List.length_append, List.length_cons, List.length_nil]; omega)|rfl)))|((with_reducible refine gC ?_);(first|((with_reducible refine NCall.isF 30 ?_);refine NCall.pureE (c1) ?_)|((with_reducible refine NCall.isF 49 ?_);refine NCall.subE [0] (c2) rfl (by decide) rfl rfl ?_)))|(with_reducible refine NS.keep ?_)|(with_reducible refine NLd.of (by with_reducible assumption) ?_))<;>(conv=>whnf))|((with_reducible refine gNRK ?_);(first|((with_reducible refine st_ordS1 ?s1 ?s2 ?s3 ?_); (case s1 => kernel_rfl); (case s2 => kernel_rfl); (case s3 => exact rfl); intro K hK; (conv=>whnf))|((with_reducible refine st_ordS1g ?s1 ?s2 ?s3 ?_); (case s1 => kernel_rfl); (case s2 => kernel_rfl); (case s3 => exact rfl); intro K hK; (conv=>whnf))|((with_reducible refine st_ordS2 ?s2 ?_); (case s2 => kernel_rfl); intro K hK; (conv=>whnf))|((with_reducible refine st_ordS2g ?s2 ?s3 ?_); (case s2 => kernel_rfl); (case s3 => exact rfl); intro K hK; (conv=>whnf))|((with_reducible refine st_ordS0 ?s2 ?_); (case s2 => kernel_rfl))|(with_reducible refine st_ordSout ?_)))|((with_reducible refine gNOK ?_);(first|(refine st_ordK1 rfl (by kernel_rfl) rfl ?_; intro K hK; (conv=>whnf))|(refine st_ordK1g rfl (by kernel_rfl) rfl ?_; intro K hK; (conv=>whnf))|(refine st_ordK0 rfl (by kernel_rfl) ?_)|(refine st_ordKA rfl rfl (by kernel_rfl) (by intro h; cases h) ?_)))|((with_reducible refine gNEK ?_);(first|(refine st_eachK ?_ ?_; (intro K hK; (conv=>whnf)))|(refine st_eachKg rfl ?_ ?_; (intro K hK; (conv=>whnf)))|exact st_eachK0))|((with_reducible refine gX ?_);(first|(refine st_orderS [] rfl rfl (by kernel_rfl) _ rfl ?_)|(with_reducible first|refine z3 ?_|refine z4 ?_|refine z5 ?_|refine z6 ?_|refine z7 ?_|refine z8 ?_|refine z14 ?_|refine z15 ?_)|((with_reducible refine z29 ?_);intro A B hA hB;(conv=>whnf))))|(with_reducible first|refine z1 ?_|refine z2 ?_|refine z9 ?_|refine z10 ?_|refine z11 ?_|refine z12 ?_|refine z13 ?_|refine z16 ?_|refine z17 ?_|refine z18 ?_|refine z19 ?_|refine z20 ?_|refine z21 ?_|refine z22 ?_|refine z23 ?_)|((with_reducible refine gB ?_);(refine z30 (by decide) ?_))|((with_reducible refine gR ?_);((first|refine z31 rfl ?_|refine z32 rfl ?_);intro K hK;(conv=>whnf)))|((with_reducible refine gF ?_);((refine z33 rfl ?_);intro K hK;(conv=>whnf)))|((refine NFlat_iff.2 ⟨⟨?s1,?s2⟩,?_⟩;(case s1=>decide +kernel);(case s2=>decide +kernel))<;>(conv=>whnf))|((intro _;skip)<;>(conv=>whnf))))
    all_goals exact ⟨by rw [he]; simp, MemFits.pre 1 rfl⟩
end Go.Proofs.Ytlcleiekeapkdaa

