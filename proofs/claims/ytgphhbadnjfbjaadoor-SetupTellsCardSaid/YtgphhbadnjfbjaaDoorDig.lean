import Derived.Test.YtgphhbadnjfbjaaDoorSxC
import Derived.Test.YtgphhbadnjfbjaaDoorProg
import Derived.Lib.ItoaLen
namespace Go.Proofs.YtgphhbadnjfbjaaDoor
open Go.Sx
set_option maxRecDepth 20000
set_option linter.unusedSimpArgs false
set_option linter.unusedVariables false
set_option linter.unusedVariables false
theorem dig_piece:∀ u:Nat,u<10→([48,49,50,51,52,53,54,55,56,57].drop u).take (u+1 - u)=[UInt8.ofNat (48+u)]:=by decide +kernel
theorem digN_c:∀ u:Nat,u≤9223372036854775807→NCall Tryd.prog 48 [.int .i64 u] [] fun r _=>r = .str (Lib.decDigits u):=by
  intro u
  induction u using Nat.strongRecOn with
  | _ u ih =>
    intro hu
    refine ncall_of Tryd.func48 rfl (by decide) ?_
    by_cases h:u<10
    · have e:=dig_piece u h
      rw [← Lib.decDigits_one h] at e
      (repeat' (first|(with_reducible first|(refine hK _ _ ?_;clear hK K)|(refine hA ?_;clear hA hB A B)|(refine hB ?_;clear hA hB A B)|(refine hK _ ?_;clear hK K))|((with_reducible refine z25 ?_);intro K hK;(conv=>whnf))|(with_reducible refine z0 ?_)|((first|((with_reducible refine NV.i64 ?s ?_);case s=>omega)|((with_reducible refine NIf.decY ?s ?_);case s=>omega)|((with_reducible refine NIf.decN ?s ?_);case s=>omega)|((with_reducible refine NN.eq (n:=u+1) ?side ?_);case side=>omega)|(with_reducible refine NN.cast ?_)|((with_reducible refine NH.mk ?s ?_);case s=>(and_intros<;>first|omega|(simp only [List.length_append,List.length_cons,List.length_nil];omega)))|(with_reducible refine NS.eq (e) ?_))<;>(conv=>whnf))|(with_reducible first|refine z3 ?_|refine z4 ?_|refine z6 ?_|refine z8 ?_)|((with_reducible refine z29 ?_);intro A B hA hB;(conv=>whnf))|(with_reducible first|refine z1 ?_|refine z2 ?_|refine z12 ?_)|((with_reducible refine gR ?_);(refine z31 rfl ?_;intro K hK;(conv=>whnf)))|((with_reducible refine gF ?_);(refine z33 rfl ?_;intro K hK;(conv=>whnf)))))
      rfl
    · have h1:=ih (u / 10) (by omega) (by omega)
      have e1:IntKind.i64.wrap ((u:Int) / 10)=((u / 10:Nat):Int):=by rw [wrap_i64 (by omega) (by omega)];omega
      have e2:(u:Int).tmod 10=((u % 10:Nat):Int):=by rw [Int.tmod_eq_emod_of_nonneg (by omega)];omega
      have hd:Lib.decDigits u=Lib.decDigits (u / 10)++[UInt8.ofNat (48+u % 10)]:=by rw [Lib.decDigits,dif_neg h]
      have hl:=Lib.itoa_length_le ((u / 10:Nat):Int) (by omega) (by omega)
      rw [Lib.itoa,if_neg (by omega),Int.toNat_natCast] at hl
      have hm:u % 10<10:=Nat.mod_lt _ (by decide)
      rw [hd]
      generalize Lib.decDigits (u / 10)=ds at *
      generalize u % 10=d at *
      have e:=dig_piece d hm
      generalize u / 10=q at *
      (repeat' (first|(with_reducible first|(refine hK _ _ ?_;clear hK K)|(refine hB ?_;clear hA hB A B)|(refine hK _ ?_;clear hK K))|((with_reducible refine z25 ?_);intro K hK;(conv=>whnf))|(with_reducible refine z0 ?_)|((with_reducible refine z27 ?_);intro K hK;(conv=>whnf))|(with_reducible refine z24 ?_)|((first|(with_reducible first|refine NV.eq (e1) ?_|refine NV.eq (e2) ?_)|((with_reducible first|refine NV.quo ?s ?_|refine NV.i64 ?s ?_);case s=>omega)|((with_reducible refine NIf.decN ?s ?_);case s=>omega)|((with_reducible refine NN.eq (n:=d+1) ?side ?_);case side=>omega)|(with_reducible refine NN.cast ?_)|((with_reducible refine NH.mk ?s ?_);case s=>(and_intros<;>first|omega|(simp only [List.length_append,List.length_cons,List.length_nil];omega)))|((with_reducible refine NCallQ.isF 48 ?_);refine NCallQ.pureEq (h1) ?_)|(with_reducible first|refine NS.eq (e) ?_|refine NS.keep ?_))<;>(conv=>whnf))|((with_reducible refine gX ?_);(first|(with_reducible first|refine z3 ?_|refine z4 ?_|refine z6 ?_|refine z8 ?_)|((with_reducible refine z29 ?_);intro A B hA hB;(conv=>whnf))|refine z34 (by kernel_rfl) (by kernel_rfl) ?_))|(with_reducible first|refine z1 ?_|refine z2 ?_)|((with_reducible refine gR ?_);(refine z31 rfl ?_;intro K hK;(conv=>whnf)))|((with_reducible refine gF ?_);(refine z33 rfl ?_;intro K hK;(conv=>whnf)))))
      rfl
theorem digits_c (n:Int) (hn : -9223372036854775808≤n∧n≤9223372036854775807):NCall Tryd.prog 48 [.int .i64 n] [] fun r _=>r = .str (Lib.itoa n):=by
  unfold Lib.itoa
  by_cases h0:n<0
  · rw [if_pos h0]
    obtain ⟨u,rfl⟩:∃ u:Nat,n = -(u:Int):=⟨n.natAbs,by omega⟩
    rw [show (-(u:Int)).natAbs=u by omega]
    refine ncall_of Tryd.func48 rfl (by decide) ?_
    by_cases h:u<10
    · have h1:=digN_c u (by omega)
      have e1:IntKind.i64.wrap (0 - -(u:Int))=(u:Int):=by rw [wrap_i64 (by omega) (by omega)];omega
      have hl:(Lib.decDigits u).length=1:=by rw [Lib.decDigits_one h];rfl
      generalize Lib.decDigits u=ds at *
      (repeat' (first|(with_reducible first|(refine hK _ _ ?_;clear hK K)|(refine hA ?_;clear hA hB A B)|(refine hK _ ?_;clear hK K))|((with_reducible refine z25 ?_);intro K hK;(conv=>whnf))|(with_reducible refine z0 ?_)|((first|(with_reducible refine NV.eq (e1) ?_)|((with_reducible refine NIf.decY ?s ?_);case s=>first|assumption|omega)|((with_reducible refine NH.mk ?s ?_);case s=>(and_intros<;>(simp only [List.length_append,List.length_cons,List.length_nil];omega)))|((with_reducible refine NCall.isF 48 ?_);refine NCall.pureE (h1) ?_)|(with_reducible refine NS.keep ?_))<;>(conv=>whnf))|(with_reducible first|refine z3 ?_|refine z4 ?_|refine z8 ?_)|((with_reducible refine z29 ?_);intro A B hA hB;(conv=>whnf))|(with_reducible first|refine z1 ?_|refine z2 ?_|refine z12 ?_)|((with_reducible refine gR ?_);(refine z31 rfl ?_;intro K hK;(conv=>whnf)))|((with_reducible refine gF ?_);(refine z33 rfl ?_;intro K hK;(conv=>whnf)))))
      rfl
    · have h1:=digN_c (u / 10) (by omega)
      have h2:=digN_c (u % 10) (by omega)
      have e0:(-(u:Int)).tdiv 10 = -((u / 10:Nat):Int):=by rw [Int.neg_tdiv,Int.tdiv_eq_ediv_of_nonneg (by omega)];omega
      have e1:IntKind.i64.wrap ((-(u:Int)).tdiv 10) = -((u / 10:Nat):Int):=by rw [e0,wrap_i64 (by omega) (by omega)]
      have e2:(-(u:Int)).tmod 10 = -((u % 10:Nat):Int):=by rw [Int.neg_tmod,Int.tmod_eq_emod_of_nonneg (by omega)];omega
      have hd:Lib.decDigits u=Lib.decDigits (u / 10)++[UInt8.ofNat (48+u % 10)]:=by rw [Lib.decDigits,dif_neg h]
      have hm:u % 10<10:=Nat.mod_lt _ (by decide)
      have hl:=Lib.itoa_length_le ((u / 10:Nat):Int) (by omega) (by omega)
      rw [Lib.itoa,if_neg (by omega),Int.toNat_natCast] at hl
      rw [Lib.decDigits_one hm] at h2
      rw [hd]
      generalize Lib.decDigits (u / 10)=ds at *
      have e3:IntKind.i64.wrap (0 - -((u / 10:Nat):Int))=((u / 10:Nat):Int):=by rw [wrap_i64 (by omega) (by omega)];omega
      have e4:IntKind.i64.wrap (0 - -((u % 10:Nat):Int))=((u % 10:Nat):Int):=by rw [wrap_i64 (by omega) (by omega)];omega
      generalize u % 10=d at *
      generalize u / 10=q at *
      (repeat' (first|(with_reducible first|(refine hK _ _ ?_;clear hK K)|(refine hA ?_;clear hA hB A B)|(refine hB ?_;clear hA hB A B)|(refine hK _ ?_;clear hK K))|((with_reducible refine z25 ?_);intro K hK;(conv=>whnf))|(with_reducible refine z0 ?_)|((first|(with_reducible first|refine NV.eq (e1) ?_|refine NV.eq (e2) ?_|refine NV.eq (e3) ?_|refine NV.eq (e4) ?_)|((with_reducible refine NIf.decY ?s ?_);case s=>assumption)|((with_reducible refine NIf.decN ?s ?_);case s=>omega)|((with_reducible refine NH.mk ?s ?_);case s=>(and_intros<;>first|omega|(simp only [List.length_append,List.length_cons,List.length_nil];omega)))|((with_reducible refine NCall.isF 48 ?_);refine NCall.pureE (h1) ?_)|((with_reducible refine NCall.isF 48 ?_);refine NCall.pureE (h2) ?_)|(with_reducible refine NS.keep ?_))<;>(conv=>whnf))|(with_reducible first|refine z3 ?_|refine z4 ?_|refine z6 ?_|refine z8 ?_)|((with_reducible refine z29 ?_);intro A B hA hB;(conv=>whnf))|(with_reducible first|refine z1 ?_|refine z2 ?_|refine z12 ?_)|((with_reducible refine gR ?_);(refine z31 rfl ?_;intro K hK;(conv=>whnf)))|((with_reducible refine gF ?_);(refine z33 rfl ?_;intro K hK;(conv=>whnf)))))
      rfl
  · rw [if_neg h0]
    obtain ⟨u,rfl⟩:=Int.eq_ofNat_of_zero_le (show 0≤n by omega)
    exact digN_c u (by omega)
end Go.Proofs.YtgphhbadnjfbjaaDoor
