import Derived.Test.YtaojbkphcnailaaDoorJ21
import Derived.Test.YtaojbkphcnailaaDoorJ23
import Derived.Test.YtaojbkphcnailaaDoorJ31
import Derived.Test.YtaojbkphcnailaaDoorJ33
import Derived.Test.YtaojbkphcnailaaDoorJ4
import Derived.Lib.Join
import Derived.Test.YtaojbkphcnailaaDoorSxC
namespace Go.Proofs.YtaojbkphcnailaaDoor
open Go.Sx
set_option maxRecDepth 20000
set_option linter.unusedSimpArgs false
set_option linter.unusedVariables false
set_option maxHeartbeats 4000000
set_option linter.unusedVariables false
namespace Ps
theorem sign_words:∀ n:Nat,n<256→Lx.isL n.toUInt8=false→[n.toUInt8] ∉ words:=by decide +kernel
theorem nextB_sign {t:List UInt8} {b:Lx.B} {n:Nat} (h:Lx.nextB t=some (b,n)) (hk:b.k=3):b.s ∉ words:=by
  cases t with
  | nil=>cases h
  | cons c r =>
    rw [Lx.nextB_eq] at h
    cases h1:Lx.isL c with
    | true=>rw [h1,if_pos rfl] at h;cases h;cases hk
    | false =>
      rw [h1,if_neg (by decide)] at h
      cases h2:Lx.isD c with
      | true =>
        rw [h2,if_pos rfl] at h
        split at h
        · cases h
        · cases h;cases hk
      | false =>
        rw [h2,if_neg (by decide)] at h
        split at h
        · cases h;show ([58,61]:List UInt8) ∉ words;decide
        split at h
        · cases h
          have:=sign_words c.toNat c.toNat_lt
          have e:c.toNat.toUInt8=c:=UInt8.ofNat_toNat
          rw [e] at this
          exact this h1
        · cases h
theorem run_apart (tx:List UInt8):∀ (f i:Nat) (out:List Lx.T),(∀ x∈out,x.k=3→x.s ∉ words)→∀ l,Lx.run tx f i out = .ok l→∀ x∈l,x.k=3→x.s ∉ words
  | 0,i,out,_,l,h=>by rw [Lx.run] at h;cases h
  | f+1,i,out,ho,l,h=>by
    rw [Lx.run] at h
    split at h
    · cases h
      intro x hx
      rcases List.mem_append.1 hx with hx | hx
      · exact ho x hx
      · rw [List.mem_singleton.1 hx];intro h;cases h
    · cases hn:Lx.nextB (tx.drop (Lx.sk tx i)) with
      | none=>rw [hn] at h;cases h
      | some bn =>
        obtain ⟨b,n⟩:=bn
        rw [hn] at h
        dsimp only at h
        split at h
        · cases h
        · refine run_apart tx f _ _ (fun x hx=>?_) l h
          rcases List.mem_append.1 hx with hx | hx
          · exact ho x hx
          · rw [List.mem_singleton.1 hx]
            exact nextB_sign hn
theorem apart_all {tx:List UInt8} {l:List Lx.T} (h:Lx.all tx = .ok l):Apart l:=fun i x hx hk =>
  run_apart tx _ 0 [] (fun x hx=>by cases hx) l h x (List.mem_of_getElem? hx) hk
theorem good_all {tx:List UInt8} {l:List Lx.T} (h:Lx.all tx = .ok l):Good l∧0<l.length:=by
  rcases Lx.all_cases tx with ⟨L,hL,hl,ha⟩ | ⟨_,a,hb⟩ | ⟨_,a,hb⟩
  · rw [ha] at h
    cases h
    exact ⟨good_res hl,by simp [Lx.res]⟩
  · rw [hb] at h;cases h
  · rw [hb] at h;cases h
theorem bad_all {tx:List UInt8} {a e:Int} (h:Lx.all tx = .bad a e):e≠0:=by
  rcases Lx.all_cases tx with ⟨L,hL,hl,ha⟩ | ⟨_,a,hb⟩ | ⟨_,a,hb⟩
  · rw [ha] at h;cases h
  · rw [hb] at h;cases h;decide
  · rw [hb] at h;cases h;decide
theorem tot_all (tx:List UInt8):Po.tot (out27 tx).1≤4000:=by
  unfold out27
  rcases Lx.all_cases tx with ⟨L,hL,hl,ha⟩ | ⟨_,a,hb⟩ | ⟨_,a,hb⟩
  · rw [ha,out,res_la]
    have hlm:(L.map (·.1)).length=L.length:=List.length_map ..
    cases hw:whole (la (L.map (·.1))) (q27 (la (L.map (·.1)))) with
    | bad j=>show Po.tot zero27≤4000;decide
    | ok x n =>
      have hn:n=0:=by
        unfold whole at hw
        split at hw
        · split at hw
          · cases hw;rfl
          · cases hw
        · cases hw
      subst hn
      have:=big27 _ hw
      show Po.tot x≤4000
      omega
  · rw [hb];show Po.tot zero27≤4000;decide
  · rw [hb];show Po.tot zero27≤4000;decide
theorem size_all (tx:List UInt8):Pd.size (out26 tx).1≤4000:=by
  unfold out26
  rcases Lx.all_cases tx with ⟨L,hL,hl,ha⟩ | ⟨_,a,hb⟩ | ⟨_,a,hb⟩
  · rw [ha,out,res_la]
    have hlm:(L.map (·.1)).length=L.length:=List.length_map ..
    cases hw:whole (la (L.map (·.1))) (q26 (la (L.map (·.1)))) with
    | bad j=>show Pd.size none26≤4000;decide
    | ok x n =>
      have hn:n=0:=by
        unfold whole at hw
        split at hw
        · split at hw
          · cases hw;rfl
          · cases hw
        · cases hw
      subst hn
      have:=big26 _ hw
      show Pd.size x≤4000
      omega
  · rw [hb];show Pd.size none26≤4000;decide
  · rw [hb];show Pd.size none26≤4000;decide
end Ps
theorem Ps.out_at {α:Type} {z:α} {l:List Lx.T} {x:α} {j:Nat} {o:α × Int × Int} (ho:o=(match Ps.whole (l.map Lx.b) (.ok x j) with | .ok x _=>(x,0,0) | .bad j=>(z,(l[j]?.getD ⟨4,0,[],0⟩).at_,10))) (hj:j<l.length):(l[j].k=4→o=(x,0,0))∧(l[j].k≠4→o=(z,l[j].at_,10)):=by
  have hw:Ps.whole (l.map Lx.b) (.ok x j)=if (Ps.tk (l.map Lx.b) j).k=4 then .ok x 0 else .bad j:=rfl
  rw [hw,Ps.tk_b (List.getElem?_eq_getElem hj)] at ho
  constructor
  · intro h
    rw [if_pos (show (Lx.b l[j]).k=4 from h)] at ho
    exact ho
  · intro h
    rw [if_neg (show ¬(Lx.b l[j]).k=4 from h)] at ho
    dsimp only at ho
    rw [List.getElem?_eq_getElem hj] at ho
    exact ho
theorem refparse27_c (tx:List UInt8) (hs:tx.length≤4000) (F:Heap) :
    NCall Tryd.prog 8 [.str tx] [hpB F] fun r m=>∃ G pu u,F.le G∧Po.At G (Ps.out27 tx).1 pu u∧r = .tup [.agg (Po.cs (Ps.out27 tx).1 pu u),.int .i64 (Ps.out27 tx).2.1,.int .i64 (Ps.out27 tx).2.2]∧m=[hpB G]:=by
  refine NCall.fits (K:=fun r m=>∃ G pu u,F.le G∧Po.At G (Ps.out27 tx).1 pu u∧r.den=(AV.tup [.agg (Po.cs (Ps.out27 tx).1 pu u),.int .i64 (Ps.out27 tx).2.1,.int .i64 (Ps.out27 tx).2.2]).den∧MemFits m [hpB G]) ?_ fun r m' ⟨G,pu,u,h1,h2,h3,h4⟩=>⟨_,_,h3.symm,h4,G,pu,u,h1,h2,rfl,rfl⟩
  have cl:=reflex_c F tx hs
  have ho:Ps.out27 tx=Ps.out Ps.zero27 Ps.q27 (Lx.all tx):=rfl
  generalize Ps.out27 tx=o at *
  cases hq:Lx.all tx with
  | bad a e =>
    rw [hq] at ho
    have ho:o=(Ps.zero27,a,e):=ho
    subst ho
    have he:=Ps.bad_all hq
    have cl:=cl.mono fun r m h=>show m=[hpB F]∧r = .tup [.hs (.slice none 0 0) 0,.int .i64 a,.int .i64 e] from by
      rcases h with ⟨l,F',v,h1,_⟩ | ⟨a',e',h1,h2,h3⟩
      · rw [hq] at h1;cases h1
      · rw [hq] at h1;cases h1;exact ⟨h2,h3⟩
    refine ncall_of Tryd.func8 rfl (by decide) ?_
    (repeat' (first|(with_reducible first|(refine hK _ _ ?_;clear hK K)|(refine hA ?_;clear hA hB A B)|(refine hK _ ?_;clear hK K))|((with_reducible refine z25 ?_);intro K hK;(conv=>whnf))|(with_reducible refine z0 ?_)|((first|with_reducible refine NIf.not_ ?_|((with_reducible refine NIf.decN ?s ?_);case s=>assumption)|((with_reducible refine NH.mk ?s ?_);case s=>(and_intros<;>first|with_reducible rfl|((with_reducible refine gOnes ?_);rfl)|((with_reducible refine gLen ?_);rfl)))|((with_reducible refine NCall.isF 28 ?_);refine NCall.subw [0] _ _ (cl) rfl (by decide) rfl ?_;rintro _ _ ⟨rfl,rfl⟩;refine ⟨Nat.le_of_ble_eq_true rfl,_,rfl,?_⟩))<;>(conv=>whnf))|(with_reducible first|refine z3 ?_|refine z4 ?_|refine z8 ?_)|((with_reducible refine z29 ?_);intro A B hA hB;(conv=>whnf))|(with_reducible first|refine z1 ?_|refine z2 ?_|refine z12 ?_)|((with_reducible refine gR ?_);(refine z31 rfl ?_;intro K hK;(conv=>whnf)))|((with_reducible refine gF ?_);(refine z33 rfl ?_;intro K hK;(conv=>whnf)))|((intro _;skip)<;>(conv=>whnf))))
    all_goals exact ⟨F,.slice none 0 0,.slice none 0 0,F.le_refl,⟨Ps.nil26 _,Ps.nil27 _⟩,rfl,MemFits.pre 1 rfl⟩
  | ok l =>
    rw [hq] at ho
    obtain ⟨hg,h0⟩:=Ps.good_all hq
    have ha:=Ps.apart_all hq
    have cl:=cl.mono fun r m h=>show ∃ F' v,F.le F'∧Ps.Toks F' v l∧SlOk v l.length∧m=[hpB F']∧r = .tup [.hs v l.length,.int .i64 0,.int .i64 0] from by
      rcases h with ⟨l',F',v,h1,h2,h3,h4,h5⟩ | ⟨a',e',h1,h2,h3⟩
      · rw [hq] at h1;cases h1;exact ⟨F',v,h2,h5,h5.ok,h3,h4⟩
      · rw [hq] at h1;cases h1
    have cr:=fun v=>refrows_c v l hg (Ps.row (l.map Lx.b) (Ps.step (l.map Lx.b) (l.map Lx.b).length)) 0 h0 fun i h1 h2=>refrow_c v l hg (Ps.step (l.map Lx.b) (l.map Lx.b).length) i h2 fun i' h3 h4=>refstep_c v l hg ha (l.map Lx.b).length i' (by rw [List.length_map];omega) h4
    have e:Ps.wrap (fun xs=>Po.T.mk 4 Ps.none26 0 0 xs) (Ps.chain (l.map Lx.b) Ps.wBar (Ps.row (l.map Lx.b) (Ps.step (l.map Lx.b) (l.map Lx.b).length)) 0)=Ps.q27 (l.map Lx.b):=rfl
    rw [e] at cr
    unfold Ps.out at ho
    dsimp only at ho
    have hn:=hg.few
    unfold Ps.D27 at cr
    generalize Ps.q27 (l.map Lx.b)=q at *
    have gets:=fun G v (h:Ps.Toks G v l) j (hj:j<l.length)=>h.get (List.getElem?_eq_getElem hj)
    rcases q with ⟨x,j⟩ | j
    · by_cases hj:j<l.length
      · have cr:=fun v F' (hv:Ps.Toks F' v l)=>(cr v F' hv).mono fun r m h=>show ∃ pu u G,F'.le G∧Po.At G x pu u∧G.c ((addrOf v).add (j*4)) (.int .i64 l[j].k)∧G.c ((addrOf v).add (j*4+3)) (.int .i64 l[j].at_)∧r = .tup [.agg (Po.cs x pu u),.int .i64 j,.bool true]∧m=[hpB G] from by
          obtain ⟨pu,u,G,h1,h2,h3,h4,h5,h6⟩:=Ps.Out27.ok rfl h
          have:=gets G v (Ps.Toks.mono h1 hv) j hj
          exact ⟨pu,u,G,h1,h2,this.1,this.2.2.2,h5,h6⟩
        obtain ⟨ho1,ho2⟩:=Ps.out_at ho hj
        generalize l[j]=y at *
        refine ncall_of Tryd.func8 rfl (by decide) ?_
        by_cases hk:y.k=4
        · have ho1:=ho1 hk
          subst ho1
          (repeat' (first|(with_reducible first|(refine hK _ _ ?_;clear hK K)|(refine hB ?_;clear hA hB A B)|(refine hK _ ?_;clear hK K))|((with_reducible first|refine z25 ?_|refine z26 ?_);intro K hK;(conv=>whnf))|(with_reducible refine z0 ?_)|((first|((with_reducible refine NIf.no ?s ?_);case s=>(simp ;done))|with_reducible refine NIf.not_ ?_|((with_reducible refine NIf.decY ?s ?_);case s=>assumption)|(with_reducible first|refine NN.cast ?_|refine NN.a6 ?_|refine NN.keep ?_)|((with_reducible refine NH.mk ?s ?_);case s=>(and_intros<;>first|with_reducible rfl|((with_reducible refine gOnes ?_);rfl)|((with_reducible refine gLen ?_);rfl)|omega))|((with_reducible refine NCall.isF 28 ?_);refine NCall.subw [0] _ _ (cl) rfl (by decide) rfl ?_;rintro _ _ ⟨F',v,h1,h2,hok,rfl,rfl⟩;refine ⟨Nat.le_of_ble_eq_true rfl,_,rfl,?_⟩)|((with_reducible refine NCall.isF 29 ?_);refine NCall.subw [0] _ _ (cr v F' h2) rfl (by decide) rfl ?_;rintro _ _ ⟨pu,u,G,g1,g2,g3,g4,rfl,rfl⟩;refine ⟨Nat.le_of_ble_eq_true rfl,_,rfl,?_⟩)|(with_reducible refine NLd.of (by with_reducible assumption) ?_))<;>(conv=>whnf))|(with_reducible first|refine z3 ?_|refine z4 ?_|refine z6 ?_|refine z8 ?_)|((with_reducible refine z29 ?_);intro A B hA hB;(conv=>whnf))|(with_reducible first|refine z1 ?_|refine z2 ?_)|((with_reducible refine gR ?_);(refine z31 rfl ?_;intro K hK;(conv=>whnf)))|((with_reducible refine gF ?_);(refine z33 rfl ?_;intro K hK;(conv=>whnf)))|((intro _;skip)<;>(conv=>whnf))))
          all_goals exact ⟨G,pu,u,h1.trans g1,g2,rfl,MemFits.pre 1 rfl⟩
        · have ho2:=ho2 hk
          subst ho2
          (repeat' (first|(with_reducible first|(refine hK _ _ ?_;clear hK K)|(refine hA ?_;clear hA hB A B)|(refine hB ?_;clear hA hB A B)|(refine hK _ ?_;clear hK K))|((with_reducible first|refine z25 ?_|refine z26 ?_);intro K hK;(conv=>whnf))|(with_reducible refine z0 ?_)|((first|((with_reducible refine NIf.no ?s ?_);case s=>(simp ;done))|with_reducible refine NIf.not_ ?_|((with_reducible refine NIf.decN ?s ?_);case s=>assumption)|(with_reducible first|refine NN.cast ?_|refine NN.a6 ?_|refine NN.keep ?_)|((with_reducible refine NH.mk ?s ?_);case s=>(and_intros<;>first|with_reducible rfl|((with_reducible refine gOnes ?_);rfl)|((with_reducible refine gLen ?_);rfl)|omega))|((with_reducible refine NCall.isF 28 ?_);refine NCall.subw [0] _ _ (cl) rfl (by decide) rfl ?_;rintro _ _ ⟨F',v,h1,h2,hok,rfl,rfl⟩;refine ⟨Nat.le_of_ble_eq_true rfl,_,rfl,?_⟩)|((with_reducible refine NCall.isF 29 ?_);refine NCall.subw [0] _ _ (cr v F' h2) rfl (by decide) rfl ?_;rintro _ _ ⟨pu,u,G,g1,g2,g3,g4,rfl,rfl⟩;refine ⟨Nat.le_of_ble_eq_true rfl,_,rfl,?_⟩)|(with_reducible refine NLd.of (by with_reducible assumption) ?_))<;>(conv=>whnf))|((with_reducible refine gNO ?_);(first|(refine z36 rfl (by kernel_rfl) ?_;intro K hK;(conv=>whnf))|refine z38 rfl (by kernel_rfl) ?_|refine z39 rfl rfl (by kernel_rfl) (by intro h;cases h) ?_))|((with_reducible refine gNE ?_);(first|(refine z40 ?_ ?_;(intro K hK;(conv=>whnf)))|exact z42))|((with_reducible refine gX ?_);(first|refine z35 (by kernel_rfl) _ rfl ?_|(with_reducible first|refine z3 ?_|refine z4 ?_|refine z6 ?_|refine z8 ?_)|((with_reducible refine z29 ?_);intro A B hA hB;(conv=>whnf))))|(with_reducible first|refine z1 ?_|refine z2 ?_|refine z12 ?_)|((with_reducible refine gR ?_);(refine z31 rfl ?_;intro K hK;(conv=>whnf)))|((with_reducible refine gF ?_);(refine z33 rfl ?_;intro K hK;(conv=>whnf)))|((intro _;skip)<;>(conv=>whnf))))
          all_goals exact ⟨G,.slice none 0 0,.slice none 0 0,h1.trans g1,⟨Ps.nil26 _,Ps.nil27 _⟩,rfl,MemFits.pre 1 rfl⟩
      · have cr:=fun v F' (hv:Ps.Toks F' v l)=>(cr v F' hv).mono fun r m h=>Ps.Out27.ok rfl h
        refine ncall_of Tryd.func8 rfl (by decide) ?_
        (repeat' (first|(with_reducible first|(refine hK _ _ ?_;clear hK K)|(refine hB ?_;clear hA hB A B)|(refine hK _ ?_;clear hK K))|((with_reducible first|refine z25 ?_|refine z26 ?_);intro K hK;(conv=>whnf))|(with_reducible refine z0 ?_)|((first|with_reducible refine NIf.not_ ?_|((with_reducible refine NIf.decY ?s ?_);case s=>with_reducible rfl)|((with_reducible refine NIf.yes ?s ?_);case s=>rfl)|(with_reducible first|refine NN.cast ?_|refine NN.a6 ?_|refine NN.keep ?_)|((with_reducible refine NH.mk ?s ?_);case s=>(and_intros<;>first|with_reducible rfl|((with_reducible refine gOnes ?_);rfl)|((with_reducible refine gLen ?_);rfl)|omega))|((with_reducible refine NCall.isF 28 ?_);refine NCall.subw [0] _ _ (cl) rfl (by decide) rfl ?_;rintro _ _ ⟨F',v,h1,h2,hok,rfl,rfl⟩;refine ⟨Nat.le_of_ble_eq_true rfl,_,rfl,?_⟩)|((with_reducible refine NCall.isF 29 ?_);refine NCall.subw [0] _ _ (cr v F' h2) rfl (by decide) rfl ?_;rintro _ _ ⟨pu,u,G,g1,g2,g3,g4,rfl,rfl⟩;refine ⟨Nat.le_of_ble_eq_true rfl,_,rfl,?_⟩))<;>(conv=>whnf))|(with_reducible first|refine z3 ?_|refine z4 ?_|refine z6 ?_)|((with_reducible refine z29 ?_);intro A B hA hB;(conv=>whnf))|(with_reducible first|refine z1 ?_|refine z2 ?_)|((with_reducible refine gF ?_);(refine z33 rfl ?_;intro K hK;(conv=>whnf)))|((intro _;skip)<;>(conv=>whnf))))
        all_goals exact (hj g4).elim
    · have ho:o=(Ps.zero27,(l[j]?.getD ⟨4,0,[],0⟩).at_,10):=ho
      by_cases hj:j<l.length
      · have cr:=fun v F' (hv:Ps.Toks F' v l)=>(cr v F' hv).mono fun r m h=>show ∃ y pu u G,F'.le G∧Po.At G y pu u∧G.c ((addrOf v).add (j*4)) (.int .i64 l[j].k)∧G.c ((addrOf v).add (j*4+3)) (.int .i64 l[j].at_)∧r = .tup [.agg (Po.cs y pu u),.int .i64 j,.bool false]∧m=[hpB G] from by
          obtain ⟨y,pu,u,G,h1,h2,h3,h4,h5,h6⟩:=Ps.Out27.no rfl h
          have:=gets G v (Ps.Toks.mono h1 hv) j hj
          exact ⟨y,pu,u,G,h1,h2,this.1,this.2.2.2,h5,h6⟩
        rw [List.getElem?_eq_getElem hj] at ho
        dsimp only [Option.getD_some] at ho
        generalize l[j]=y at *
        subst ho
        refine ncall_of Tryd.func8 rfl (by decide) ?_
        (repeat' (first|(with_reducible first|(refine hK _ _ ?_;clear hK K)|(refine hA ?_;clear hA hB A B)|(refine hB ?_;clear hA hB A B)|(refine hK _ ?_;clear hK K))|((with_reducible first|refine z25 ?_|refine z26 ?_);intro K hK;(conv=>whnf))|(with_reducible refine z0 ?_)|((first|with_reducible refine NIf.not_ ?_|((with_reducible refine NIf.decY ?s ?_);case s=>with_reducible rfl)|((with_reducible refine NIf.yes ?s ?_);case s=>rfl)|((with_reducible refine NIf.no ?s ?_);case s=>rfl)|(with_reducible first|refine NN.cast ?_|refine NN.a6 ?_|refine NN.keep ?_)|((with_reducible refine NH.mk ?s ?_);case s=>(and_intros<;>first|with_reducible rfl|((with_reducible refine gOnes ?_);rfl)|((with_reducible refine gLen ?_);rfl)|omega))|((with_reducible refine NCall.isF 28 ?_);refine NCall.subw [0] _ _ (cl) rfl (by decide) rfl ?_;rintro _ _ ⟨F',v,h1,h2,hok,rfl,rfl⟩;refine ⟨Nat.le_of_ble_eq_true rfl,_,rfl,?_⟩)|((with_reducible refine NCall.isF 29 ?_);refine NCall.subw [0] _ _ (cr v F' h2) rfl (by decide) rfl ?_;rintro _ _ ⟨y',pu,u,G,g1,g2,g3,g4,rfl,rfl⟩;refine ⟨Nat.le_of_ble_eq_true rfl,_,rfl,?_⟩)|(with_reducible refine NLd.of (by with_reducible assumption) ?_))<;>(conv=>whnf))|((with_reducible refine gNO ?_);(first|(refine z36 rfl (by kernel_rfl) ?_;intro K hK;(conv=>whnf))|refine z38 rfl (by kernel_rfl) ?_|refine z39 rfl rfl (by kernel_rfl) (by intro h;cases h) ?_))|((with_reducible refine gNE ?_);(first|(refine z40 ?_ ?_;(intro K hK;(conv=>whnf)))|exact z42))|((with_reducible refine gX ?_);(first|refine z35 (by kernel_rfl) _ rfl ?_|(with_reducible first|refine z3 ?_|refine z4 ?_|refine z6 ?_|refine z8 ?_)|((with_reducible refine z29 ?_);intro A B hA hB;(conv=>whnf))))|(with_reducible first|refine z1 ?_|refine z2 ?_|refine z12 ?_)|((with_reducible refine gR ?_);(refine z31 rfl ?_;intro K hK;(conv=>whnf)))|((with_reducible refine gF ?_);(refine z33 rfl ?_;intro K hK;(conv=>whnf)))|((intro _;skip)<;>(conv=>whnf))))
        all_goals exact ⟨G,.slice none 0 0,.slice none 0 0,h1.trans g1,⟨Ps.nil26 _,Ps.nil27 _⟩,rfl,MemFits.pre 1 rfl⟩
      · have cr:=fun v F' (hv:Ps.Toks F' v l)=>(cr v F' hv).mono fun r m h=>Ps.Out27.no rfl h
        refine ncall_of Tryd.func8 rfl (by decide) ?_
        (repeat' (first|(with_reducible first|(refine hK _ _ ?_;clear hK K)|(refine hA ?_;clear hA hB A B)|(refine hB ?_;clear hA hB A B)|(refine hK _ ?_;clear hK K))|((with_reducible first|refine z25 ?_|refine z26 ?_);intro K hK;(conv=>whnf))|(with_reducible refine z0 ?_)|((first|with_reducible refine NIf.not_ ?_|((with_reducible refine NIf.decY ?s ?_);case s=>with_reducible rfl)|((with_reducible refine NIf.yes ?s ?_);case s=>rfl)|((with_reducible refine NIf.no ?s ?_);case s=>rfl)|((with_reducible refine NH.mk ?s ?_);case s=>(and_intros<;>first|with_reducible rfl|((with_reducible refine gOnes ?_);rfl)|((with_reducible refine gLen ?_);rfl)))|((with_reducible refine NCall.isF 28 ?_);refine NCall.subw [0] _ _ (cl) rfl (by decide) rfl ?_;rintro _ _ ⟨F',v,h1,h2,hok,rfl,rfl⟩;refine ⟨Nat.le_of_ble_eq_true rfl,_,rfl,?_⟩)|((with_reducible refine NCall.isF 29 ?_);refine NCall.subw [0] _ _ (cr v F' h2) rfl (by decide) rfl ?_;rintro _ _ ⟨y,pu,u,G,g1,g2,g3,g4,rfl,rfl⟩;refine ⟨Nat.le_of_ble_eq_true rfl,_,rfl,?_⟩))<;>(conv=>whnf))|(with_reducible first|refine z3 ?_|refine z4 ?_|refine z6 ?_)|((with_reducible refine z29 ?_);intro A B hA hB;(conv=>whnf))|(with_reducible first|refine z1 ?_|refine z2 ?_)|((with_reducible refine gF ?_);(refine z33 rfl ?_;intro K hK;(conv=>whnf)))|((intro _;skip)<;>(conv=>whnf))))
        all_goals exact (hj g4).elim
theorem refparse26_c (tx:List UInt8) (hs:tx.length≤4000) (F:Heap) :
    NCall Tryd.prog 12 [.str tx] [hpB F] fun r m=>∃ G u,F.le G∧Pd.Row G u ((Ps.out26 tx).1).l∧r = .tup [.agg (Pd.cs (Ps.out26 tx).1 u),.int .i64 (Ps.out26 tx).2.1,.int .i64 (Ps.out26 tx).2.2]∧m=[hpB G]:=by
  refine NCall.fits (K:=fun r m=>∃ G u,F.le G∧Pd.Row G u ((Ps.out26 tx).1).l∧r.den=(AV.tup [.agg (Pd.cs (Ps.out26 tx).1 u),.int .i64 (Ps.out26 tx).2.1,.int .i64 (Ps.out26 tx).2.2]).den∧MemFits m [hpB G]) ?_ fun r m' ⟨G,u,h1,h2,h3,h4⟩=>⟨_,_,h3.symm,h4,G,u,h1,h2,rfl,rfl⟩
  have cl:=reflex_c F tx hs
  have ho:Ps.out26 tx=Ps.out Ps.none26 Ps.q26 (Lx.all tx):=rfl
  generalize Ps.out26 tx=o at *
  cases hq:Lx.all tx with
  | bad a e =>
    rw [hq] at ho
    have ho:o=(Ps.none26,a,e):=ho
    subst ho
    have he:=Ps.bad_all hq
    have cl:=cl.mono fun r m h=>show m=[hpB F]∧r = .tup [.hs (.slice none 0 0) 0,.int .i64 a,.int .i64 e] from by
      rcases h with ⟨l,F',v,h1,_⟩ | ⟨a',e',h1,h2,h3⟩
      · rw [hq] at h1;cases h1
      · rw [hq] at h1;cases h1;exact ⟨h2,h3⟩
    refine ncall_of Tryd.func12 rfl (by decide) ?_
    (repeat' (first|(with_reducible first|(refine hK _ _ ?_;clear hK K)|(refine hA ?_;clear hA hB A B)|(refine hK _ ?_;clear hK K))|((with_reducible refine z25 ?_);intro K hK;(conv=>whnf))|(with_reducible refine z0 ?_)|((first|with_reducible refine NIf.not_ ?_|((with_reducible refine NIf.decN ?s ?_);case s=>assumption)|((with_reducible refine NH.mk ?s ?_);case s=>(and_intros<;>first|with_reducible rfl|((with_reducible refine gOnes ?_);rfl)|((with_reducible refine gLen ?_);rfl)))|((with_reducible refine NCall.isF 28 ?_);refine NCall.subw [0] _ _ (cl) rfl (by decide) rfl ?_;rintro _ _ ⟨rfl,rfl⟩;refine ⟨Nat.le_of_ble_eq_true rfl,_,rfl,?_⟩))<;>(conv=>whnf))|(with_reducible first|refine z3 ?_|refine z4 ?_|refine z8 ?_)|((with_reducible refine z29 ?_);intro A B hA hB;(conv=>whnf))|(with_reducible first|refine z1 ?_|refine z2 ?_|refine z12 ?_)|((with_reducible refine gR ?_);(refine z31 rfl ?_;intro K hK;(conv=>whnf)))|((with_reducible refine gF ?_);(refine z33 rfl ?_;intro K hK;(conv=>whnf)))|((intro _;skip)<;>(conv=>whnf))))
    all_goals exact ⟨F,.slice none 0 0,F.le_refl,Ps.nil26 _,rfl,MemFits.pre 1 rfl⟩
  | ok l =>
    rw [hq] at ho
    obtain ⟨hg,h0⟩:=Ps.good_all hq
    have ha:=Ps.apart_all hq
    have cl:=cl.mono fun r m h=>show ∃ F' v,F.le F'∧Ps.Toks F' v l∧SlOk v l.length∧m=[hpB F']∧r = .tup [.hs v l.length,.int .i64 0,.int .i64 0] from by
      rcases h with ⟨l',F',v,h1,h2,h3,h4,h5⟩ | ⟨a',e',h1,h2,h3⟩
      · rw [hq] at h1;cases h1;exact ⟨F',v,h2,h5,h5.ok,h3,h4⟩
      · rw [hq] at h1;cases h1
    have cr:=fun v=>refcond_c v l hg (Ps.group (l.map Lx.b) (Ps.part (l.map Lx.b) (l.map Lx.b).length)) 0 h0 fun i h1 h2=>refgroup_c v l hg (Ps.part (l.map Lx.b) (l.map Lx.b).length) i h2 fun i' h3 h4=>refpart_c v l hg ha (l.map Lx.b).length i' (by rw [List.length_map];omega) h4
    have e:Ps.wrap (fun xs=>Pd.T.mk 6 0 0 xs) (Ps.chain (l.map Lx.b) Ps.wOr (Ps.group (l.map Lx.b) (Ps.part (l.map Lx.b) (l.map Lx.b).length)) 0)=Ps.q26 (l.map Lx.b):=rfl
    rw [e] at cr
    unfold Ps.out at ho
    dsimp only at ho
    have hn:=hg.few
    unfold Ps.D26 at cr
    generalize Ps.q26 (l.map Lx.b)=q at *
    have gets:=fun G v (h:Ps.Toks G v l) j (hj:j<l.length)=>h.get (List.getElem?_eq_getElem hj)
    rcases q with ⟨x,j⟩ | j
    · by_cases hj:j<l.length
      · have cr:=fun v F' (hv:Ps.Toks F' v l)=>(cr v F' hv).mono fun r m h=>show ∃ u G,F'.le G∧Pd.Row G u x.l∧G.c ((addrOf v).add (j*4)) (.int .i64 l[j].k)∧G.c ((addrOf v).add (j*4+3)) (.int .i64 l[j].at_)∧r = .tup [.agg (Pd.cs x u),.int .i64 j,.bool true]∧m=[hpB G] from by
          obtain ⟨u,G,h1,h2,h3,h4,h5,h6⟩:=Ps.Out26.ok rfl h
          have:=gets G v (Ps.Toks.mono h1 hv) j hj
          exact ⟨u,G,h1,h2,this.1,this.2.2.2,h5,h6⟩
        obtain ⟨ho1,ho2⟩:=Ps.out_at ho hj
        generalize l[j]=y at *
        refine ncall_of Tryd.func12 rfl (by decide) ?_
        by_cases hk:y.k=4
        · have ho1:=ho1 hk
          subst ho1
          (repeat' (first|(with_reducible first|(refine hK _ _ ?_;clear hK K)|(refine hB ?_;clear hA hB A B)|(refine hK _ ?_;clear hK K))|((with_reducible first|refine z25 ?_|refine z26 ?_);intro K hK;(conv=>whnf))|(with_reducible refine z0 ?_)|((first|((with_reducible refine NIf.no ?s ?_);case s=>(simp ;done))|with_reducible refine NIf.not_ ?_|((with_reducible refine NIf.decY ?s ?_);case s=>assumption)|(with_reducible first|refine NN.cast ?_|refine NN.a6 ?_|refine NN.keep ?_)|((with_reducible refine NH.mk ?s ?_);case s=>(and_intros<;>first|with_reducible rfl|((with_reducible refine gOnes ?_);rfl)|((with_reducible refine gLen ?_);rfl)|omega))|((with_reducible refine NCall.isF 28 ?_);refine NCall.subw [0] _ _ (cl) rfl (by decide) rfl ?_;rintro _ _ ⟨F',v,h1,h2,hok,rfl,rfl⟩;refine ⟨Nat.le_of_ble_eq_true rfl,_,rfl,?_⟩)|((with_reducible refine NCall.isF 33 ?_);refine NCall.subw [0] _ _ (cr v F' h2) rfl (by decide) rfl ?_;rintro _ _ ⟨u,G,g1,g2,g3,g4,rfl,rfl⟩;refine ⟨Nat.le_of_ble_eq_true rfl,_,rfl,?_⟩)|(with_reducible refine NLd.of (by with_reducible assumption) ?_))<;>(conv=>whnf))|(with_reducible first|refine z3 ?_|refine z4 ?_|refine z6 ?_|refine z8 ?_)|((with_reducible refine z29 ?_);intro A B hA hB;(conv=>whnf))|(with_reducible first|refine z1 ?_|refine z2 ?_)|((with_reducible refine gR ?_);(refine z31 rfl ?_;intro K hK;(conv=>whnf)))|((with_reducible refine gF ?_);(refine z33 rfl ?_;intro K hK;(conv=>whnf)))|((intro _;skip)<;>(conv=>whnf))))
          all_goals exact ⟨G,u,h1.trans g1,g2,rfl,MemFits.pre 1 rfl⟩
        · have ho2:=ho2 hk
          subst ho2
          (repeat' (first|(with_reducible first|(refine hK _ _ ?_;clear hK K)|(refine hA ?_;clear hA hB A B)|(refine hB ?_;clear hA hB A B)|(refine hK _ ?_;clear hK K))|((with_reducible first|refine z25 ?_|refine z26 ?_);intro K hK;(conv=>whnf))|(with_reducible refine z0 ?_)|((first|((with_reducible refine NIf.no ?s ?_);case s=>(simp ;done))|with_reducible refine NIf.not_ ?_|((with_reducible refine NIf.decN ?s ?_);case s=>assumption)|(with_reducible first|refine NN.cast ?_|refine NN.a6 ?_|refine NN.keep ?_)|((with_reducible refine NH.mk ?s ?_);case s=>(and_intros<;>first|with_reducible rfl|((with_reducible refine gOnes ?_);rfl)|((with_reducible refine gLen ?_);rfl)|omega))|((with_reducible refine NCall.isF 28 ?_);refine NCall.subw [0] _ _ (cl) rfl (by decide) rfl ?_;rintro _ _ ⟨F',v,h1,h2,hok,rfl,rfl⟩;refine ⟨Nat.le_of_ble_eq_true rfl,_,rfl,?_⟩)|((with_reducible refine NCall.isF 33 ?_);refine NCall.subw [0] _ _ (cr v F' h2) rfl (by decide) rfl ?_;rintro _ _ ⟨u,G,g1,g2,g3,g4,rfl,rfl⟩;refine ⟨Nat.le_of_ble_eq_true rfl,_,rfl,?_⟩)|(with_reducible refine NLd.of (by with_reducible assumption) ?_))<;>(conv=>whnf))|((with_reducible refine gNO ?_);(first|(refine z36 rfl (by kernel_rfl) ?_;intro K hK;(conv=>whnf))|refine z38 rfl (by kernel_rfl) ?_|refine z39 rfl rfl (by kernel_rfl) (by intro h;cases h) ?_))|((with_reducible refine gNE ?_);(first|(refine z40 ?_ ?_;(intro K hK;(conv=>whnf)))|exact z42))|((with_reducible refine gX ?_);(first|refine z35 (by kernel_rfl) _ rfl ?_|(with_reducible first|refine z3 ?_|refine z4 ?_|refine z6 ?_|refine z8 ?_)|((with_reducible refine z29 ?_);intro A B hA hB;(conv=>whnf))))|(with_reducible first|refine z1 ?_|refine z2 ?_|refine z12 ?_)|((with_reducible refine gR ?_);(refine z31 rfl ?_;intro K hK;(conv=>whnf)))|((with_reducible refine gF ?_);(refine z33 rfl ?_;intro K hK;(conv=>whnf)))|((intro _;skip)<;>(conv=>whnf))))
          all_goals exact ⟨G,.slice none 0 0,h1.trans g1,Ps.nil26 _,rfl,MemFits.pre 1 rfl⟩
      · have cr:=fun v F' (hv:Ps.Toks F' v l)=>(cr v F' hv).mono fun r m h=>Ps.Out26.ok rfl h
        refine ncall_of Tryd.func12 rfl (by decide) ?_
        (repeat' (first|(with_reducible first|(refine hK _ _ ?_;clear hK K)|(refine hB ?_;clear hA hB A B)|(refine hK _ ?_;clear hK K))|((with_reducible first|refine z25 ?_|refine z26 ?_);intro K hK;(conv=>whnf))|(with_reducible refine z0 ?_)|((first|with_reducible refine NIf.not_ ?_|((with_reducible refine NIf.decY ?s ?_);case s=>with_reducible rfl)|((with_reducible refine NIf.yes ?s ?_);case s=>rfl)|(with_reducible first|refine NN.cast ?_|refine NN.a6 ?_|refine NN.keep ?_)|((with_reducible refine NH.mk ?s ?_);case s=>(and_intros<;>first|with_reducible rfl|((with_reducible refine gOnes ?_);rfl)|((with_reducible refine gLen ?_);rfl)|omega))|((with_reducible refine NCall.isF 28 ?_);refine NCall.subw [0] _ _ (cl) rfl (by decide) rfl ?_;rintro _ _ ⟨F',v,h1,h2,hok,rfl,rfl⟩;refine ⟨Nat.le_of_ble_eq_true rfl,_,rfl,?_⟩)|((with_reducible refine NCall.isF 33 ?_);refine NCall.subw [0] _ _ (cr v F' h2) rfl (by decide) rfl ?_;rintro _ _ ⟨u,G,g1,g2,g3,g4,rfl,rfl⟩;refine ⟨Nat.le_of_ble_eq_true rfl,_,rfl,?_⟩))<;>(conv=>whnf))|(with_reducible first|refine z3 ?_|refine z4 ?_|refine z6 ?_)|((with_reducible refine z29 ?_);intro A B hA hB;(conv=>whnf))|(with_reducible first|refine z1 ?_|refine z2 ?_)|((with_reducible refine gF ?_);(refine z33 rfl ?_;intro K hK;(conv=>whnf)))|((intro _;skip)<;>(conv=>whnf))))
        all_goals exact (hj g4).elim
    · have ho:o=(Ps.none26,(l[j]?.getD ⟨4,0,[],0⟩).at_,10):=ho
      by_cases hj:j<l.length
      · have cr:=fun v F' (hv:Ps.Toks F' v l)=>(cr v F' hv).mono fun r m h=>show ∃ y u G,F'.le G∧Pd.Row G u y.l∧G.c ((addrOf v).add (j*4)) (.int .i64 l[j].k)∧G.c ((addrOf v).add (j*4+3)) (.int .i64 l[j].at_)∧r = .tup [.agg (Pd.cs y u),.int .i64 j,.bool false]∧m=[hpB G] from by
          obtain ⟨y,u,G,h1,h2,h3,h4,h5,h6⟩:=Ps.Out26.no rfl h
          have:=gets G v (Ps.Toks.mono h1 hv) j hj
          exact ⟨y,u,G,h1,h2,this.1,this.2.2.2,h5,h6⟩
        rw [List.getElem?_eq_getElem hj] at ho
        dsimp only [Option.getD_some] at ho
        generalize l[j]=y at *
        subst ho
        refine ncall_of Tryd.func12 rfl (by decide) ?_
        (repeat' (first|(with_reducible first|(refine hK _ _ ?_;clear hK K)|(refine hA ?_;clear hA hB A B)|(refine hB ?_;clear hA hB A B)|(refine hK _ ?_;clear hK K))|((with_reducible first|refine z25 ?_|refine z26 ?_);intro K hK;(conv=>whnf))|(with_reducible refine z0 ?_)|((first|with_reducible refine NIf.not_ ?_|((with_reducible refine NIf.decY ?s ?_);case s=>with_reducible rfl)|((with_reducible refine NIf.yes ?s ?_);case s=>rfl)|((with_reducible refine NIf.no ?s ?_);case s=>rfl)|(with_reducible first|refine NN.cast ?_|refine NN.a6 ?_|refine NN.keep ?_)|((with_reducible refine NH.mk ?s ?_);case s=>(and_intros<;>first|with_reducible rfl|((with_reducible refine gOnes ?_);rfl)|((with_reducible refine gLen ?_);rfl)|omega))|((with_reducible refine NCall.isF 28 ?_);refine NCall.subw [0] _ _ (cl) rfl (by decide) rfl ?_;rintro _ _ ⟨F',v,h1,h2,hok,rfl,rfl⟩;refine ⟨Nat.le_of_ble_eq_true rfl,_,rfl,?_⟩)|((with_reducible refine NCall.isF 33 ?_);refine NCall.subw [0] _ _ (cr v F' h2) rfl (by decide) rfl ?_;rintro _ _ ⟨y',u,G,g1,g2,g3,g4,rfl,rfl⟩;refine ⟨Nat.le_of_ble_eq_true rfl,_,rfl,?_⟩)|(with_reducible refine NLd.of (by with_reducible assumption) ?_))<;>(conv=>whnf))|((with_reducible refine gNO ?_);(first|(refine z36 rfl (by kernel_rfl) ?_;intro K hK;(conv=>whnf))|refine z38 rfl (by kernel_rfl) ?_|refine z39 rfl rfl (by kernel_rfl) (by intro h;cases h) ?_))|((with_reducible refine gNE ?_);(first|(refine z40 ?_ ?_;(intro K hK;(conv=>whnf)))|exact z42))|((with_reducible refine gX ?_);(first|refine z35 (by kernel_rfl) _ rfl ?_|(with_reducible first|refine z3 ?_|refine z4 ?_|refine z6 ?_|refine z8 ?_)|((with_reducible refine z29 ?_);intro A B hA hB;(conv=>whnf))))|(with_reducible first|refine z1 ?_|refine z2 ?_|refine z12 ?_)|((with_reducible refine gR ?_);(refine z31 rfl ?_;intro K hK;(conv=>whnf)))|((with_reducible refine gF ?_);(refine z33 rfl ?_;intro K hK;(conv=>whnf)))|((intro _;skip)<;>(conv=>whnf))))
        all_goals exact ⟨G,.slice none 0 0,h1.trans g1,Ps.nil26 _,rfl,MemFits.pre 1 rfl⟩
      · have cr:=fun v F' (hv:Ps.Toks F' v l)=>(cr v F' hv).mono fun r m h=>Ps.Out26.no rfl h
        refine ncall_of Tryd.func12 rfl (by decide) ?_
        (repeat' (first|(with_reducible first|(refine hK _ _ ?_;clear hK K)|(refine hA ?_;clear hA hB A B)|(refine hB ?_;clear hA hB A B)|(refine hK _ ?_;clear hK K))|((with_reducible first|refine z25 ?_|refine z26 ?_);intro K hK;(conv=>whnf))|(with_reducible refine z0 ?_)|((first|with_reducible refine NIf.not_ ?_|((with_reducible refine NIf.decY ?s ?_);case s=>with_reducible rfl)|((with_reducible refine NIf.yes ?s ?_);case s=>rfl)|((with_reducible refine NIf.no ?s ?_);case s=>rfl)|((with_reducible refine NH.mk ?s ?_);case s=>(and_intros<;>first|with_reducible rfl|((with_reducible refine gOnes ?_);rfl)|((with_reducible refine gLen ?_);rfl)))|((with_reducible refine NCall.isF 28 ?_);refine NCall.subw [0] _ _ (cl) rfl (by decide) rfl ?_;rintro _ _ ⟨F',v,h1,h2,hok,rfl,rfl⟩;refine ⟨Nat.le_of_ble_eq_true rfl,_,rfl,?_⟩)|((with_reducible refine NCall.isF 33 ?_);refine NCall.subw [0] _ _ (cr v F' h2) rfl (by decide) rfl ?_;rintro _ _ ⟨y,u,G,g1,g2,g3,g4,rfl,rfl⟩;refine ⟨Nat.le_of_ble_eq_true rfl,_,rfl,?_⟩))<;>(conv=>whnf))|(with_reducible first|refine z3 ?_|refine z4 ?_|refine z6 ?_)|((with_reducible refine z29 ?_);intro A B hA hB;(conv=>whnf))|(with_reducible first|refine z1 ?_|refine z2 ?_)|((with_reducible refine gF ?_);(refine z33 rfl ?_;intro K hK;(conv=>whnf)))|((intro _;skip)<;>(conv=>whnf))))
        all_goals exact (hj g4).elim
end Go.Proofs.YtaojbkphcnailaaDoor
namespace Go.Proofs.YtaojbkphcnailaaDoor
open Go.Sx
def TabF (F:Heap):Prop:=∃ t fr,F.o 0 (.cells (Lib.pow10Tab.map fun z=>Value.int .u64 z).toArray t fr)
theorem TabF.mono {F G:Heap} (h:F.le G) (hF:TabF F):TabF G:=by
  obtain ⟨t,fr,h1⟩:=hF
  exact ⟨t,fr,h.o _ _ h1⟩
theorem MemOk.heapO {F:Heap} {w:World} (h:MemOk [hpB F] w) {b:Nat} {o:Obj} (ho:F.o b o):w.heap[b]?=some o :=
  (h.holds (hpB F) (by simp)).2.2 b o ho
theorem tab_is {F : Heap} (hF : TabF F) {w : World} (h : MemOk [hpB F] w) : Lib.TabIs Tryd.prog w "internal/strconv.uint64pow10" .u64 Lib.pow10Tab := by
  obtain ⟨t,fr,h1⟩:=hF
  have h2:=MemOk.heapO h h1
  have hg : Tryd.prog.globalNamed "internal/strconv.uint64pow10" = some 0 := by kernel_rfl
  unfold Lib.TabIs World.var?
  rw [hg]
  simp only [Option.bind_some,h2]
theorem itoa_c (F:Heap) (hF:TabF F) (n:Int) (hn : -9223372036854775808≤n∧n≤9223372036854775807):NCall Tryd.prog 42 [.int .i64 n] [hpB F] fun r m=>r = .str (Lib.itoa n)∧m=[hpB F]:=by
  refine ncall_below (Go.Sx.enters_of Tryd.func42 rfl (by decide)) fun w hw=>?_
  refine (Tryd.strconv_Itoa n hn.1 hn.2 w (tab_is hF hw)).mono fun e w' ⟨h1,k,os,h2⟩=>?_
  subst h2
  refine ⟨h1,rfl,rfl,rfl,by simp [Sort.grow,World.drewN],fun b hb=>?_⟩
  simp [Sort.grow,World.drewN,Array.getElem?_append_left hb]
def strV (x:List UInt8):List Value:=[.string ⟨x.toArray⟩]
theorem join_c (F:Heap) (v:Value) (l:List (List UInt8)) (sep:List UInt8) (hv:RowF F 1 (fun x vs=>vs=strV x) v l) (hl:(Lib.join l sep).length≤140737488355328) (hn:l.length≤140737488355328) :
    NCall Tryd.prog 43 [.hs v l.length,.str sep] [hpB F] fun r m=>r = .str (Lib.join l sep)∧m=[hpB F]:=by
  have hen:∀ (us:Array Value) (w:World),(callFunc 43 us).run Tryd.prog w = .ok (.enter 43 us) w:=Go.Sx.enters_of Tryd.func43 rfl (by decide)
  obtain ⟨⟨A,cap,rfl,hcap,hA⟩,hat⟩:=hv
  cases l with
  | nil =>
    refine ncall_below hen fun w hw=>?_
    refine (Tryd.strings_Join_none A cap ⟨sep.toArray⟩ w).mono fun e w' ⟨h1,h2⟩=>?_
    subst h2
    exact ⟨h1,rfl,rfl,rfl,Nat.le_refl _,fun _ _=>rfl⟩
  | cons x l =>
    refine ncall_below hen fun w hw=>?_
    have hc:∀ a u,F.c a u→a.block<w.heap.size∧w.cell? a=some u:=(hw.holds (hpB F) (by simp)).2.1
    cases A with
    | none=>have:=hA rfl;simp at hcap;omega
    | some a =>
      obtain ⟨vs,rfl,_,h0⟩:=hat 0 x rfl
      have h00:=hc _ _ h0.1
      have hsp:a.spot=none:=by
        have h1:=World.cell?_spot h00.2
        simpa [addrOf,Addr.add] using h1
      obtain ⟨bk,o,sp⟩:=a
      dsimp only at hsp
      subst hsp
      have hm:((x::l).map fun y=>(⟨y.toArray⟩:ByteArray)).map (·.data.toList)=x::l:=by simp [Function.comp_def]
      have hj:=Tryd.strings_Join bk o cap ((x::l).map fun y=>⟨y.toArray⟩) ⟨sep.toArray⟩ w (fun j y hy=>by
        rw [List.getElem?_map] at hy
        cases hx:(x::l)[j]? with
        | none=>rw [hx] at hy;cases hy
        | some z =>
          rw [hx] at hy
          injection hy with hy
          subst hy
          obtain ⟨vs,rfl,_,h1⟩:=hat j z hx
          have:=(hc _ _ h1.1).2
          by_cases hj0:j=0
          · subst hj0;simpa [addrOf,Addr.add] using this
          · simpa [addrOf,Addr.add,hj0] using this) (by have:=h00.1;rw [block_of_add] at this;exact this) (by simpa using hn) (by simpa using hcap) (by rw [hm];simpa using hl)
      rw [hm] at hj
      simp only [List.length_map] at hj
      refine hj.mono fun e w' ⟨h1,h2⟩=>?_
      exact ⟨by simpa [AV.den] using h1,h2.os,h2.tape,h2.output,h2.size,h2.block⟩
def strAV (l:List (List UInt8)):List AV:=l.map .str
theorem strAV_den (l:List (List UInt8)):denL (strAV l)=l.flatMap strV:=by
  induction l with
  | nil=>rfl
  | cons x l ih=>simp only [strAV,List.map_cons,List.flatMap_cons,strV,denL,AV.den] at *;rw [ih];rfl
theorem strAV_len (l:List (List UInt8)):(strAV l).length=l.length:=by simp [strAV]
theorem join_own (F:Heap) (v:Value) (l:List (List UInt8)) (sep:List UInt8) (t:TypeId) (m:List Blk) (hm:MemFits m [hpB F,⟨addrOf v,strAV l,.row v t 1 l.length⟩]) (hl:(Lib.join l sep).length≤140737488355328) (hn:l.length≤140737488355328) (i:Nat) :
    NCall Tryd.prog 43 [.sl i v l.length,.str sep] m fun r m'=>r = .str (Lib.join l sep)∧m'=m :=
  NCall.frozen (args':=[.hs v l.length,.str sep]) strV (join_c noHeap (.slice none 0 0) [] [] RowF.nil (by decide) (by decide)) rfl hm rfl (strAV_den l) (fun _ _=>rfl) fun G _ hr =>
    (join_c G v l sep hr hl hn).mono fun _ _ h=>⟨h.1,rfl⟩
end Go.Proofs.YtaojbkphcnailaaDoor
