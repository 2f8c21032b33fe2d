import Derived.Test.YtgphhbadnjfbjaaDoorSuP
import Derived.Test.YtgphhbadnjfbjaaDoorErr
import Derived.Test.YtgphhbadnjfbjaaDoorLib2
import Derived.Shelf.Strings.Split
namespace Go.Proofs.YtgphhbadnjfbjaaDoor
open Go.Sx Go.RowKit
set_option maxRecDepth 20000
set_option linter.unusedSimpArgs false
set_option linter.unusedVariables false
set_option maxHeartbeats 1000000
set_option linter.unusedVariables false
namespace Su
theorem count_hit {c:UInt8} {s:List UInt8} {i:Nat} (h:Lib.indexByte s c=i):s.count c=1+(s.drop (i+1)).count c:=by
  induction s generalizing i with
  | nil=>rw [Lib.indexByte] at h;omega
  | cons x r ih =>
    rw [Lib.indexByte] at h
    by_cases hx:x=c
    · subst hx
      rw [if_pos (by simp)] at h
      obtain rfl:i=0:=by omega
      rw [List.count_cons_self,Nat.zero_add,List.drop_succ_cons,List.drop_zero]
      omega
    · rw [if_neg (by simpa using hx)] at h
      split at h
      · omega
      · rename_i hne
        have hge:=Lib.indexByte_ge r c
        obtain ⟨j,hj⟩:∃ j:Nat,Lib.indexByte r c=j:=⟨(Lib.indexByte r c).toNat,by
          have:Lib.indexByte r c≠-1:=by simpa using hne
          omega⟩
        obtain rfl:i=j+1:=by omega
        rw [List.count_cons_of_ne (by exact hx),ih hj]
        rfl
theorem splitK_sp (c:UInt8):∀ (n:Nat) (s:List UInt8),s.length≤n→Lib.splitK [c] 0 (s.count c) s=sp c s:=by
  intro n
  induction n with
  | zero =>
    intro s h
    cases s with
    | nil=>rfl
    | cons=>simp at h
  | succ n ih =>
    intro s h
    rcases sp_index c s with ⟨h1,h2,h3⟩ | ⟨i,h1,h2,h3⟩
    · rw [List.count_eq_zero_of_not_mem h2,h3];rfl
    · have hc:=count_hit h1
      have e:Lib.index s [c]=(i:Int):=by rw [Lib.index_one,h1]
      rw [hc,Nat.add_comm,Lib.splitK,e,if_neg (by simp),h3]
      rw [show ((i:Int).toNat+0)=i by omega,show ((i:Int).toNat+[c].length)=i+1 by simp]
      rw [ih _ (by rw [List.length_drop];omega)]
end Su
theorem gensplit_raw (F:Heap) (s:List UInt8) (hs:s.length<4294967281):NCall Tryd.prog 62 [.str s,.str [32],.int .i64 0,.int .i64 (-1)] [hpB F] fun r m=>∃ u,r.den=slOf u∧MemFits m [hpB F,⟨addrOf u,strAV (Su.sp 32 s),.row u 9 1 (Su.sp 32 s).length⟩]:=by
  rw [NCall_iff]
  refine ⟨Go.Sx.enters_of Tryd.func62 rfl (by decide),fun w hw=>?_⟩
  have hsz:(⟨s.toArray⟩:ByteArray).size=s.length:=by simp [ByteArray.size]
  have hd:(⟨s.toArray⟩:ByteArray).data.toList=s:=rfl
  have hcnt:Lib.countB ⟨s.toArray⟩ ⟨#[32]⟩=s.count 32:=Lib.count_one 32 s
  have hmap:=Lib.splitB_data ⟨#[32]⟩ 0 (Lib.countB ⟨s.toArray⟩ ⟨#[32]⟩) ⟨s.toArray⟩
  rw [hcnt,hd,show (⟨#[32]⟩:ByteArray).data.toList=[32] from rfl,Su.splitK_sp 32 s.length s (Nat.le_refl _)] at hmap
  have hall:=Lib.splitB_all ⟨#[32]⟩ (by decide) 0 _ ⟨s.toArray⟩ hcnt
  have hle:s.count 32≤s.length:=List.count_le_length
  refine (Any.strings_genSplit_core Tryd.lays221 (by kernel_rfl) ⟨s.toArray⟩ ⟨#[32]⟩ 0 (-1) (s.count 32+1) w (by rw [hsz];exact hs) (by decide) (by decide)
    (fun x c hx=>((Any.strings_Index_one { Tryd.lays221 with } x 32 _).mono fun e w' ⟨he,hw'⟩=>⟨by rw [he];unfold Lib.indexB;rw [show (⟨#[32]⟩:ByteArray).data.toList=[32] from rfl,Lib.index_one],hw'⟩))
    (((Any.strings_Count_one { Tryd.lays221 with } ⟨s.toArray⟩ 32 w)).mono fun e w' ⟨he,hw'⟩=>⟨by rw [he,hcnt];rfl,hw'⟩)
    (by decide) (by decide) (by rw [hcnt,hsz];omega)).mono fun e w' ⟨he,hw'⟩=>?_
  rw [Nat.add_sub_cancel] at he hw'
  rw [hall] at he
  have hcells:Lib.cellsOf (Lib.splitB ⟨#[32]⟩ 0 (s.count 32) ⟨s.toArray⟩) (s.count 32+1)=((Lib.splitB ⟨#[32]⟩ 0 (s.count 32) ⟨s.toArray⟩).map Value.string).toArray:=by
    rw [← hall];exact Lib.cellsOf_full _
  have hden:(Lib.splitB ⟨#[32]⟩ 0 (s.count 32) ⟨s.toArray⟩).map Value.string=denL (strAV (Su.sp 32 s)):=by
    rw [← hmap]
    generalize Lib.splitB ⟨#[32]⟩ 0 (s.count 32) ⟨s.toArray⟩=l
    unfold strAV
    induction l with
    | nil=>rfl
    | cons x l ih=>simp only [List.map_cons,denL,AV.den];rw [ih]
  have hlen:(Su.sp 32 s).length=s.count 32+1:=by rw [← hmap,List.length_map,hall]
  have hdl:(denL (strAV (Su.sp 32 s))).length=s.count 32+1:=by rw [← hden,List.length_map,hall]
  rw [hcells,hden] at hw'
  rw [← hlen] at he
  generalize Su.sp 32 s=l at *
  subst hw'
  have hF:∀ b,(hpB F).foot b→b<w.heap.size:=fun b hb'=>(hw.holds (hpB F) (by simp)).lt hb'
  have hkept:MemOk [hpB F] (w.alloc (.cells (denL (strAV l)).toArray 9)):=hw.keep (by show w.heap.size≤(w.heap.push _).size;rw [Array.size_push];omega) fun k hk b hbk=>by
    have:=(hw.holds k hk).lt hbk
    simp only [World.alloc]
    rw [Array.getElem?_push_lt this,Array.getElem?_eq_getElem this]
  have hrow:=World.ownsRow_lit (base:=0) (e:=9) (size:=1) w (denL (strAV l)).toArray l.length (Nat.zero_le _) (by unfold maxLen;omega) (by rw [List.size_toArray,hdl,hlen];omega)
  refine ⟨.raw (.slice (some ⟨w.heap.size,0,none⟩) l.length l.length),[hpB F,⟨⟨w.heap.size,0,none⟩,strAV l,.row (.slice (some ⟨w.heap.size,0,none⟩) l.length l.length) 9 1 l.length⟩],⟨.slice (some ⟨w.heap.size,0,none⟩) l.length l.length,rfl,MemFits.eq rfl⟩,he,⟨fun k hk=>?_,?_⟩,⟨rfl,rfl,rfl,by show w.heap.size≤(w.heap.push _).size;rw [Array.size_push];omega,fun k hk _=>by simp only [World.alloc];rw [Array.getElem?_push_lt hk,Array.getElem?_eq_getElem hk]⟩,fun b ⟨k,hk,hkw,hkb⟩=>?_,fun b ⟨k,hk,hkb⟩=>?_⟩
  · simp only [List.mem_cons,List.not_mem_nil,or_false] at hk
    rcases hk with rfl | rfl
    · exact hkept.holds _ (by simp)
    · exact ⟨hrow,rfl⟩
  · simp only [List.pairwise_cons,List.mem_singleton,forall_eq,List.not_mem_nil,false_implies,implies_true,List.Pairwise.nil,and_true]
    intro _ b h1 h2
    have h3:=hF b h1
    simp only [Blk.foot,Blk.bn,Value.ownBlock,Option.some.injEq] at h2
    omega
  · simp only [List.mem_cons,List.not_mem_nil,or_false] at hk
    rcases hk with rfl | rfl
    · cases hkw
    · have hkb:some w.heap.size=some b:=hkb
      injection hkb with hkb
      exact .inr (by omega)
  · simp only [List.mem_cons,List.not_mem_nil,or_false] at hk
    rcases hk with rfl | rfl
    · exact .inl ⟨_,by simp,hkb⟩
    · simp only [Blk.foot,Blk.bn,Value.ownBlock,Option.some.injEq] at hkb
      exact .inr (by omega)
theorem split_c (F:Heap) (s:List UInt8) (hs:s.length<4294967281):NCall Tryd.prog 56 [.str s,.str [32]] [hpB F] fun r m=>∃ F' u,F.le F'∧r = .hs u (Su.sp 32 s).length∧m=[hpB F']∧RowF F' 1 (fun x us=>us=strV x) u (Su.sp 32 s):=by
  have cg:=NCall.grow strV strAV (fun l=>l=Su.sp 32 s) (gensplit_raw F s hs |>.mono fun r m ⟨u,h1,h2⟩=>⟨u,_,rfl,h1,h2⟩) strAV_den (fun _=>rfl)
  have cg:=cg.mono fun r m h=>show ∃ F' u,F.le F'∧RowF F' 1 (fun x us=>us=strV x) u (Su.sp 32 s)∧r = .hs u (Su.sp 32 s).length∧m=[hpB F'] from by
    obtain ⟨F',u,l,rfl,h1,h2,h3,h4⟩:=h
    exact ⟨F',u,h1,h4,h2,h3⟩
  refine NCall.fits (K:=fun r m=>∃ F' u,F.le F'∧RowF F' 1 (fun x us=>us=strV x) u (Su.sp 32 s)∧r.den=(AV.hs u (Su.sp 32 s).length).den∧MemFits m [hpB F']) ?_ fun r m' ⟨F',u,h1,h2,h3,h4⟩=>⟨_,_,h3.symm,h4,F',u,h1,rfl,rfl,h2⟩
  refine ncall_of Tryd.func56 rfl (by decide) ?_
  (repeat' (first|(with_reducible first|(refine hK _ _ ?_;clear hK K)|(refine hK _ ?_;clear hK K))|((with_reducible refine z25 ?_);intro K hK;(conv=>whnf))|(with_reducible refine z0 ?_)|(((with_reducible refine NCall.isF 62 ?_);refine NCall.subw [0] _ _ (cg) rfl (by decide) rfl ?_;rintro _ _ ⟨F',u,h1,h2,rfl,rfl⟩;refine ⟨Nat.le_of_ble_eq_true rfl,_,rfl,?_⟩)<;>(conv=>whnf))|(with_reducible first|refine z3 ?_|refine z4 ?_|refine z8 ?_|refine z1 ?_|refine z2 ?_)|((with_reducible refine gR ?_);(refine z31 rfl ?_;intro K hK;(conv=>whnf)))|((with_reducible refine gF ?_);(refine z33 rfl ?_;intro K hK;(conv=>whnf)))))
  all_goals exact ⟨F',u,h1,h2,rfl,MemFits.pre 1 rfl⟩
theorem index40_c (s:List UInt8) (c:Nat) (hc:c<256):NCall Tryd.prog 55 [.str s,.int .u8 c] [] fun r _=>r = .int .i64 (Lib.indexByte s c.toUInt8):=by
  refine (ncall_below (r:=.int .i64 (Lib.indexByte s c.toUInt8)) (Go.Sx.enters_of Tryd.func55 rfl (by decide)) fun w hw=>?_).mono fun r m h=>h.1
  refine (Tryd.strings_IndexByte ⟨s.toArray⟩ c w).mono fun e' w' ⟨h1,h2⟩=>?_
  subst h2
  refine ⟨?_,rfl,rfl,rfl,Nat.le_refl _,fun _ _=>rfl⟩
  rw [h1,Int.toNat_natCast]
  rfl
end Go.Proofs.YtgphhbadnjfbjaaDoor
