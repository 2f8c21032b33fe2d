import Derived.Test.YtijkmhmgigaieaaSxC
namespace Go.Sx
open Go.RowKit
def many (L:List Blk):Res where
  p w:=MemOk L w
  f b:=foots L b
  lt:=fun _ _ h ⟨k,hk,hb⟩=>(h.holds k hk).lt hb
  keep:=fun _ _ h hsz hb=>h.keep hsz fun k hk b hkb=>hb b ⟨k,hk,hkb⟩
def manyB (L:List Blk):Blk:=⟨⟨0,0,none⟩,[],.res (many L)⟩
theorem memOk_perm {m m':List Blk} (h:m.Perm m') {w:World} (hm:MemOk m w):MemOk m' w :=
  ⟨fun k hk=>hm.holds k (h.mem_iff.2 hk),h.pairwise hm.sep fun h=>h.symm⟩
theorem MemFits.perm {m m':List Blk} (h:m.Perm m'):MemFits m m':=fun _ hm =>
  ⟨memOk_perm h hm,fun _ ⟨k,hk,h1,h2⟩=>⟨k,h.mem_iff.2 hk,h1,h2⟩,fun _ ⟨k,hk,h1⟩=>⟨k,h.mem_iff.2 hk,h1⟩⟩
theorem MemFits.unpack (L m:List Blk) (_hL:∀ k∈L,k.wr=true):MemFits (manyB L::m) (L++m):=fun w hm=>by
  have h0:=hm.holds _ (List.mem_cons_self ..)
  have h1:MemOk L w:=h0.2
  have h2:=List.pairwise_cons.1 hm.sep
  refine ⟨⟨fun k hk=>?_,List.pairwise_append.2 ⟨h1.sep,h2.2,fun x hx y hy=>?_⟩⟩,fun b ⟨k,hk,h3,h4⟩=>?_,fun b ⟨k,hk,h4⟩=>?_⟩
  · rcases List.mem_append.1 hk with hk | hk
    · exact h1.holds k hk
    · exact hm.holds k (List.mem_cons_of_mem _ hk)
  · exact fun _ b h5 h6=>h2.1 y hy (.inl rfl) b ⟨x,hx,h5⟩ h6
  · rcases List.mem_append.1 hk with hk | hk
    · exact ⟨_,List.mem_cons_self ..,rfl,⟨k,hk,h4⟩⟩
    · exact ⟨k,List.mem_cons_of_mem _ hk,h3,h4⟩
  · rcases List.mem_append.1 hk with hk | hk
    · exact ⟨_,List.mem_cons_self ..,⟨k,hk,h4⟩⟩
    · exact ⟨k,List.mem_cons_of_mem _ hk,h4⟩
theorem MemFits.pack (L m:List Blk) (hL:∀ k∈L,k.wr=true):MemFits (L++m) (manyB L::m):=fun w hm=>by
  have h2:=List.pairwise_append.1 hm.sep
  have h1:MemOk L w:=⟨fun k hk=>hm.holds k (List.mem_append_left _ hk),h2.1⟩
  refine ⟨⟨fun k hk=>?_,List.pairwise_cons.2 ⟨fun y hy=>?_,h2.2.1⟩⟩,fun b ⟨k,hk,h3,h4⟩=>?_,fun b ⟨k,hk,h4⟩=>?_⟩
  · rcases List.mem_cons.1 hk with rfl | hk
    · exact ⟨rfl,h1⟩
    · exact hm.holds k (List.mem_append_right _ hk)
  · exact fun _ b ⟨x,hx,h5⟩ h6=>h2.2.2 x hx y hy (.inl (hL x hx)) b h5 h6
  · rcases List.mem_cons.1 hk with rfl | hk
    · obtain ⟨x,hx,h5⟩:=h4
      exact ⟨x,List.mem_append_left _ hx,hL x hx,h5⟩
    · exact ⟨k,List.mem_append_right _ hk,h3,h4⟩
  · rcases List.mem_cons.1 hk with rfl | hk
    · obtain ⟨x,hx,h5⟩:=h4
      exact ⟨x,List.mem_append_left _ hx,h5⟩
    · exact ⟨k,List.mem_append_right _ hk,h4⟩
theorem set_perm {m:List Blk} {i:Nat} {x y:Blk} (hi:m[i]?=some x):(x::m.set i y).Perm (y::m):=by
  induction m generalizing i with
  | nil=>simp at hi
  | cons z m ih =>
    cases i with
    | zero=>simp at hi;subst hi;exact List.Perm.swap ..
    | succ i =>
      have:=ih (by simpa using hi)
      simp only [List.set_cons_succ]
      exact (List.Perm.swap ..).trans ((this.cons z).trans (List.Perm.swap ..))
theorem erase_perm {m:List Blk} {i:Nat} {x:Blk} (hi:m[i]?=some x):(x::m.eraseIdx i).Perm m:=by
  induction m generalizing i with
  | nil=>simp at hi
  | cons z m ih =>
    cases i with
    | zero=>simp at hi;subst hi;exact List.Perm.refl _
    | succ i =>
      simp only [List.eraseIdx_cons_succ]
      exact (List.Perm.swap ..).trans ((ih (by simpa using hi)).cons z)
theorem MemFits.focus {m L L':List Blk} {i:Nat} {x:Blk} (hi:m[i]?=some (manyB L)) (hL:∀ k∈L,k.wr=true) (hp:L.Perm (x::L')):MemFits m (m.set i (manyB L')++[x]):=by
  have hL':∀ k∈x::L',k.wr=true:=fun k hk=>hL k (hp.mem_iff.2 hk)
  have e1:m.Perm (manyB L::m.eraseIdx i):=(erase_perm hi).symm
  have hi2:(m.set i (manyB L'))[i]?=some (manyB L'):=by rw [List.getElem?_set_self (List.getElem?_eq_some_iff.1 hi).1]
  have e2:(manyB L'::(m.eraseIdx i++[x])).Perm (m.set i (manyB L')++[x]):=by
    have h:=(set_perm (y:=manyB L') hi)
    have h3:(manyB L::m.set i (manyB L')).Perm (manyB L::manyB L'::m.eraseIdx i):=h.trans ((e1.cons _).trans (List.Perm.swap ..))
    have h4:=(List.perm_cons _).1 h3
    exact (h4.symm.append_right [x])
  refine (MemFits.perm e1).trans ((MemFits.unpack L _ hL).trans ((MemFits.perm ?_).trans ((MemFits.pack L' _ fun k hk=>hL' k (List.mem_cons_of_mem _ hk)).trans (MemFits.perm e2))))
  refine (hp.append_right _).trans ?_
  simp only [List.cons_append]
  rw [← List.append_assoc]
  exact List.perm_append_singleton x (L'++m.eraseIdx i) |>.symm
theorem MemFits.unfocus {m L L':List Blk} {i:Nat} {x:Blk} (hi:m[i]?=some (manyB L)) (hL:∀ k∈L',k.wr=true) (hp:L'.Perm (x::L)):MemFits (m++[x]) (m.set i (manyB L')):=by
  have hx:∀ k∈x::L,k.wr=true:=fun k hk=>hL k (hp.mem_iff.2 hk)
  have e1:(m++[x]).Perm (manyB L::(m.eraseIdx i++[x])):=((erase_perm hi).symm.append_right [x])
  have e2:(manyB L'::m.eraseIdx i).Perm (m.set i (manyB L')):=by
    have h3:(manyB L::m.set i (manyB L')).Perm (manyB L::manyB L'::m.eraseIdx i):=(set_perm (y:=manyB L') hi).trans (((erase_perm hi).symm.cons _).trans (List.Perm.swap ..))
    exact ((List.perm_cons _).1 h3).symm
  refine (MemFits.perm e1).trans ((MemFits.unpack L _ fun k hk=>hx k (List.mem_cons_of_mem _ hk)).trans ((MemFits.perm ?_).trans ((MemFits.pack L' _ hL).trans (MemFits.perm e2))))
  rw [← List.append_assoc]
  exact (List.perm_append_singleton x (L++m.eraseIdx i)).trans (hp.symm.append_right _)
theorem MemFits.noMany (m:List Blk):MemFits m (m++[manyB []]):=fun w hm =>
  have no:∀ b,(manyB []).foot b→False:=fun b hb=>by
    obtain ⟨k,hk,_⟩:=(hb:foots [] b)
    cases hk
  ⟨hm.push (Nat.le_refl _) (fun _ _ _ _=>rfl) ⟨rfl,MemOk.nil w⟩ (fun b hb=>(no b hb).elim),fun b hb=>(wrs_push hb).elim id fun h=>(no b h).elim,
    fun b hb=>(foots_push hb).elim id fun h=>(no b h).elim⟩
theorem cut_row {w:World} {v:Value} {t:TypeId} {sz n:Nat} {xs:List Value} (h:w.ownsRow 0 t sz v n xs) {k:Nat} (hk:k≤n) :
    w.ownsRow 0 t sz (cutSl v sz 0 k) k (xs.take (k*sz))∧(cutSl v sz 0 k).ownBlock=v.ownBlock:=by
  obtain ⟨h5,h6⟩:=h
  have hle:k*sz≤n*sz:=Nat.mul_le_mul_right _ hk
  rcases h6 with ⟨rfl,rfl⟩ | ⟨g,cap,cur,rfl,hbg,hg,hc1,hc2,hc3,hc4⟩
  · obtain rfl:k=0:=by omega
    exact ⟨⟨by simp,.inl ⟨rfl,rfl⟩⟩,rfl⟩
  · have e:∀ k,cutSl (.slice (some ⟨g,0,none⟩) n cap) sz 0 k = .slice (some ⟨g,0,none⟩) k cap:=fun k=>by
      unfold cutSl slOf
      dsimp only
      have:(⟨g,0,none⟩:Addr).add 0=⟨g,0,none⟩:=by unfold Addr.add;simp
      split
      · simp
      · simp [this]
    rw [e]
    refine ⟨⟨by rw [List.length_take];omega,.inr ⟨g,cap,cur,rfl,hbg,hg,by omega,hc2,hc3,?_⟩⟩,rfl⟩
    rw [← hc4,List.take_take,Nat.min_eq_left hle]
theorem MemFits.cutAt {m:List Blk} {i:Nat} {a:Addr} {cs cs':List AV} {v:Value} {t:TypeId} {sz n k:Nat} (hi:m[i]?=some ⟨a,cs,.row v t sz n⟩) (hk:k≤n) (hcs:denL cs'=(denL cs).take (k*sz)) :
    MemFits m (m.set i ⟨addrOf (cutSl v sz 0 k),cs',.row (cutSl v sz 0 k) t sz k⟩):=fun w hm=>by
  have hmem:=List.mem_of_getElem? hi
  have hh:=hm.holds _ hmem
  unfold Blk.holds at hh
  obtain ⟨h1,h2⟩:=hh
  obtain ⟨h3,h5⟩:=cut_row h1 hk
  have hf:∀ b,(⟨addrOf (cutSl v sz 0 k),cs',.row (cutSl v sz 0 k) t sz k⟩:Blk).foot b↔(⟨a,cs,.row v t sz n⟩:Blk).foot b:=fun b=>by
    show (cutSl v sz 0 k).ownBlock=some b↔v.ownBlock=some b
    rw [h5]
  refine ⟨hm.set (Nat.le_refl _) hi rfl (fun _ _ _=>rfl) ⟨?_,rfl⟩ rfl (.inr (.inl h5)),fun b hb=>?_,fun b hb=>?_⟩
  · rw [hcs];exact h3
  · rcases wrs_set hb with h | h
    · exact h
    · exact ⟨_,hmem,rfl,(hf b).1 h⟩
  · rcases foots_set hb with h | h
    · exact h
    · exact ⟨_,hmem,(hf b).1 h⟩
theorem set_mid {α:Type} {A M B:List α} {a j:Nat} {x:α} (ha:A.length=a) (hj:j<M.length):(A++(M++B)).set (a+j) x=A++(M.set j x++B):=by
  subst ha
  rw [List.set_append_right _ _ (by omega),Nat.add_sub_cancel_left,List.set_append_left _ _ hj]
theorem get_mid {α:Type} {A M B:List α} {a j:Nat} (ha:A.length=a) (hj:j<M.length):(A++(M++B))[a+j]?=M[j]?:=by
  subst ha
  rw [List.getElem?_append_right (by omega),Nat.add_sub_cancel_left,List.getElem?_append_left hj]
end Go.Sx
