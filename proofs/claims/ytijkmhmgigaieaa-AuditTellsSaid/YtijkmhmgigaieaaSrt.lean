import Derived.Test.YtijkmhmgigaieaaLay
import Derived.Sort.OwnSortedInts
import Derived.Test.YtijkmhmgigaieaaSxC
namespace Go.Proofs.Ytijkmhmgigaieaa
open Go.Sx
set_option linter.unusedVariables false
set_option maxRecDepth 20000
set_option linter.unusedSimpArgs false
set_option linter.unusedVariables false
namespace Srt
def av (l:List Int):List AV:=l.map fun z=>.int .i64 z
theorem av_den:∀ l,denL (av l)=l.map (Value.int .i64)
  | []=>rfl
  | x::l=>by
    have:=av_den l
    unfold av at *
    rw [List.map_cons,denL,this]
    rfl
theorem av_len (l:List Int):(av l).length=l.length:=by unfold av;rw [List.length_map]
theorem av_append (a b:List Int):av (a++b)=av a++av b:=by unfold av;rw [List.map_append]
def sort (l:List Int):List Int:=l.mergeSort fun x y=>decide (x≤y)
theorem sort_len (l:List Int):(sort l).length=l.length:=List.length_mergeSort l
def cutTo (v:Value) (k:Nat):Value:=match v with | .slice a _ c=>.slice a k c | _=>v
end Srt
theorem sort_c (v:Value) (t:TypeId) (l:List Int) (hl:l.length<4611686018427387904) :
    NCall Try.prog 51 [.sl 0 v l.length] [⟨addrOf v,Srt.av l,.row v t 1 l.length⟩] fun r m=>r = .tup []∧m=[⟨addrOf v,Srt.av (Srt.sort l),.row v t 1 l.length⟩]:=by
  rw [NCall_iff]
  refine ⟨Go.Sx.enters_of Try.func51 rfl (by decide),fun w hm=>?_⟩
  obtain ⟨⟨h1,h2⟩,h3⟩:=hm.holds _ (List.mem_singleton.2 rfl)
  rcases h2 with ⟨rfl,hn⟩ | ⟨g,cap,cur,rfl,_,hg,hle,hcap,hsz,htk⟩
  · have e:l=[]:=List.length_eq_zero_iff.1 hn
    subst e
    rw [show Srt.sort []=[] by unfold Srt.sort;simp]
    refine (Try.slices_Sort_int_none none 0 w).mono fun e w' ⟨he,hw⟩=>?_
    subst hw
    exact ⟨.tup [],_,⟨rfl,rfl⟩,he,hm,Fr.refl _ _,Fresh.self _ _⟩
  · rw [Nat.mul_one,Srt.av_den] at htk
    have hlt:g<w.heap.size:=(Array.getElem?_eq_some_iff.1 hg).1
    refine (Try.slices_Sort_int g 0 cap l w (Go.holds_of_blockI hg htk) hlt hl).mono fun e w' ⟨he,n,os,hw⟩=>?_
    have hgr:=Go.grownBy_sortedI (w:=w) (g:=g) (n:=n) (os:=os) (Srt.sort l).toArray
    have hown:=Go.ownsRow_sortedI (w:=w) (base:=0) (n:=n) (e:=t) (os:=os) (ss:=l) (ts:=Srt.sort l) (Srt.sort_len l) (Nat.zero_le _) hg hle hcap hsz
    rw [← Srt.av_den] at hown
    have hw':w'=Go.Sort.grow (Go.Sort.putRow (Value.int .i64) (Go.Sort.ahead w n) g 0 (Srt.sort l).toArray) os:=hw
    rw [← hw'] at hgr hown
    have hfr:=Fr.grown hgr
    refine ⟨.tup [],_,⟨rfl,rfl⟩,he,?_,?_,?_⟩
    · exact hm.set (i:=0) (k:=⟨addrOf (.slice (some ⟨g,0,none⟩) l.length cap),Srt.av (Srt.sort l),.row (.slice (some ⟨g,0,none⟩) l.length cap) t 1 l.length⟩) hfr.size rfl rfl
        (fun b hb hlt=>hfr.block b hlt fun e=>hb e) ⟨hown,rfl⟩ rfl (.inr (.inl rfl))
    · exact ⟨hfr.os,hfr.tape,hfr.output,hfr.size,fun k hk hS=>hfr.block k hk fun e=>hS ⟨_,List.mem_singleton.2 rfl,rfl,e⟩⟩
    · exact Fresh.set (i:=0) (Fresh.self _ _) (k:=⟨addrOf (.slice (some ⟨g,0,none⟩) l.length cap),Srt.av (Srt.sort l),.row (.slice (some ⟨g,0,none⟩) l.length cap) t 1 l.length⟩) rfl fun b hb=>.inl ⟨_,List.mem_singleton.2 rfl,rfl,hb⟩
namespace Srt
def comp (l:List Int):List Int:=Go.Lib.compact l
theorem comp_le (l:List Int):(comp l).length≤l.length:=by
  unfold comp Go.Lib.compact Go.Lib.compactUpTo
  rw [List.length_map]
  exact Nat.le_trans (List.length_filter_le _ _) (by simp)
def comped (l:List Int):List Int:=comp l++List.replicate (l.length - (comp l).length) 0
theorem comped_len (l:List Int):(comped l).length=l.length:=by
  have:=comp_le l
  unfold comped
  rw [List.length_append,List.length_replicate]
  omega
end Srt
theorem compact_nil (t:TypeId):NCall Try.prog 42 [.sl 0 (.slice none 0 0) 0] [⟨addrOf (.slice none 0 0),[],.row (.slice none 0 0) t 1 0⟩] fun r m=>r = .sl 0 (.slice none 0 0) 0∧m=[⟨addrOf (.slice none 0 0),[],.row (.slice none 0 0) t 1 0⟩]:=by
  refine ncall_of Try.func42 rfl (by decide) ?_
  (repeat' (first|(with_reducible first|(refine hK _ _ ?_;clear hK K)|(refine hA ?_;clear hA hB A B)|(refine hK _ ?_;clear hK K))|((with_reducible refine z25 ?_);intro K hK;(conv=>whnf))|(with_reducible refine z0 ?_)|((first|((with_reducible refine NIf.decY ?s ?_);case s=>omega)|((with_reducible refine NH.mk ?s ?_);case s=>(and_intros<;>with_reducible rfl)))<;>(conv=>whnf))|(with_reducible first|refine z3 ?_|refine z4 ?_|refine z8 ?_)|((with_reducible refine z29 ?_);intro A B hA hB;(conv=>whnf))|(with_reducible first|refine z1 ?_|refine z2 ?_|refine z12 ?_)|((with_reducible refine gR ?_);(refine z31 rfl ?_;intro K hK;(conv=>whnf)))|((with_reducible refine gF ?_);(refine z33 rfl ?_;intro K hK;(conv=>whnf)))))
  all_goals exact ⟨rfl,rfl⟩
theorem compact_c (v:Value) (t:TypeId) (l:List Int) (hl:l.length≤9223372036854775807) :
    NCall Try.prog 42 [.sl 0 v l.length] [⟨addrOf v,Srt.av l,.row v t 1 l.length⟩] fun r m=>r = .raw (Srt.cutTo v (Srt.comp l).length)∧m=[⟨addrOf v,Srt.av (Srt.comped l),.row v t 1 l.length⟩]:=by
  rw [NCall_iff]
  refine ⟨Go.Sx.enters_of Try.func42 rfl (by decide),fun w hm=>?_⟩
  obtain ⟨⟨h1,h2⟩,h3⟩:=hm.holds _ (List.mem_singleton.2 rfl)
  rcases h2 with ⟨rfl,hn⟩ | ⟨g,cap,cur,rfl,_,hg,hle,hcap,hsz,htk⟩
  · have e:l=[]:=List.length_eq_zero_iff.1 hn
    subst e
    refine ((NCall_iff.1 (compact_nil t)).2 w hm).mono fun e w' ⟨r,m',⟨hr,hm'⟩,he,h⟩=>?_
    subst hr hm'
    exact ⟨.raw (.slice none 0 0),_,⟨rfl,rfl⟩,he,h⟩
  · rw [Nat.mul_one,Srt.av_den] at htk
    have hlt:g<w.heap.size:=(Array.getElem?_eq_some_iff.1 hg).1
    have hc:=Try.slices_Compact (Value.int .i64) (fun _=>rfl) (EqlAt.intD _ _ .i64) (NeqAt.intD _ _ .i64) 0 Try.zeroValue3 g 0 cap l.toArray w (Go.holds_of_blockI hg htk) (by simpa using hl) (by simpa using hle)
    refine hc.mono fun e w' ⟨he,n,hw⟩=>?_
    have hgr:=Go.grownBy_sortedI (w:=w) (g:=g) (n:=n) (os:=#[]) (Srt.comped l).toArray
    have hown:=Go.ownsRow_sortedI (w:=w) (base:=0) (n:=n) (e:=t) (os:=#[]) (ss:=l) (ts:=Srt.comped l) (Srt.comped_len l) (Nat.zero_le _) hg hle hcap hsz
    rw [← Srt.av_den] at hown
    have hw':w'=Go.Sort.grow (Go.Sort.putRow (Value.int .i64) (Go.Sort.ahead w n) g 0 (Srt.comped l).toArray) #[]:=by rw [Go.Sort.grow_empty];exact hw
    rw [← hw'] at hgr hown
    have hfr:=Fr.grown hgr
    refine ⟨.raw (.slice (some ⟨g,0,none⟩) (Srt.comp l).length cap),_,⟨rfl,rfl⟩,he,?_,?_,?_⟩
    · exact hm.set (i:=0) (k:=⟨addrOf (.slice (some ⟨g,0,none⟩) l.length cap),Srt.av (Srt.comped l),.row (.slice (some ⟨g,0,none⟩) l.length cap) t 1 l.length⟩) hfr.size rfl rfl
        (fun b hb hlt=>hfr.block b hlt fun e=>hb e) ⟨hown,rfl⟩ rfl (.inr (.inl rfl))
    · exact ⟨hfr.os,hfr.tape,hfr.output,hfr.size,fun k hk hS=>hfr.block k hk fun e=>hS ⟨_,List.mem_singleton.2 rfl,rfl,e⟩⟩
    · exact Fresh.set (i:=0) (Fresh.self _ _) (k:=⟨addrOf (.slice (some ⟨g,0,none⟩) l.length cap),Srt.av (Srt.comped l),.row (.slice (some ⟨g,0,none⟩) l.length cap) t 1 l.length⟩) rfl fun b hb=>.inl ⟨_,List.mem_singleton.2 rfl,rfl,hb⟩
namespace Srt
end Srt
end Go.Proofs.Ytijkmhmgigaieaa
