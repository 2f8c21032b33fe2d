import Derived.Test.YtijkmhmgigaieaaSxC
namespace Go.Sx
set_option linter.unusedVariables false
theorem foot_hp_le {F G:Heap} (h:F.le G):∀ b,(hpB F).foot b→(hpB G).foot b:=by
  rintro b (⟨a,u,hu,e⟩ | ⟨o,ho⟩)
  · exact .inl ⟨a,u,h.c a u hu,e⟩
  · exact .inr ⟨o,h.o b o ho⟩
theorem sep_hp (F G:Heap):Sep (hpB F) (hpB G):=fun h=>by rcases h with h | h<;>cases h
theorem MemFits.dup {F G:Heap} (h:F.le G) (m:List Blk):MemFits (hpB G::m) (hpB F::hpB G::m):=fun w hm=>by
  have h1:=hm.holds (hpB G) (by simp)
  have hs:=hm.sep
  rw [List.pairwise_cons] at hs
  refine ⟨⟨fun k hk=>?_,?_⟩,fun b ⟨k,hk,hw,hb⟩=>?_,fun b ⟨k,hk,hb⟩=>?_⟩
  · rcases List.mem_cons.1 hk with rfl | hk
    · exact ⟨rfl,fun a u hu=>h1.2.1 a u (h.c a u hu),fun b o ho=>h1.2.2 b o (h.o b o ho)⟩
    · exact hm.holds k hk
  · rw [List.pairwise_cons]
    refine ⟨fun y hy=>?_,hm.sep⟩
    rcases List.mem_cons.1 hy with rfl | hy
    · exact sep_hp _ _
    · exact fun hw b hb1 hb2=>hs.1 y hy (hw.imp (fun h=>by cases h) id) b (foot_hp_le h b hb1) hb2
  · rcases List.mem_cons.1 hk with rfl | hk
    · cases hw
    · exact ⟨k,hk,hw,hb⟩
  · rcases List.mem_cons.1 hk with rfl | hk
    · exact ⟨hpB G,by simp,foot_hp_le h b hb⟩
    · exact ⟨k,hk,hb⟩
end Go.Sx
