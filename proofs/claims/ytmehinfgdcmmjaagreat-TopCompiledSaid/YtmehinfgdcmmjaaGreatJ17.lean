import Derived.Test.YtmehinfgdcmmjaaGreatSxC
import Derived.Test.YtmehinfgdcmmjaaGreatJ16
import Derived.Test.YtmehinfgdcmmjaaGreatJ11
import Derived.Test.YtmehinfgdcmmjaaGreatJ2
import Derived.Test.YtmehinfgdcmmjaaGreatJ9
namespace Go.Sx
set_option linter.unusedVariables false
theorem gx {F G:Heap} (h:F.le G):∀ b,(hpB F).foot b→(hpB G).foot b:=by
 rintro b (⟨a,u,hu,e⟩ | ⟨o,ho⟩)
 ·exact .inl ⟨a,u,h.c a u hu,e⟩
 ·exact .inr ⟨o,h.o b o ho⟩
theorem rG (F G:Heap):Sep (hpB F) (hpB G):=fun h=>by rcases h with h | h<;>cases h
theorem MemFits.dup {F G:Heap} (h:F.le G) (m:List Blk):MemFits (hpB G::m) (hpB F::hpB G::m):=fun w hm=>by
 have h1:=hm.holds (hpB G) (by simp)
 have hs:=hm.sep
 rw [List.pairwise_cons] at hs
 refine ⟨⟨fun k hk=>?_,?_⟩,fun b ⟨k,hk,hw,hb⟩=>?_,fun b ⟨k,hk,hb⟩=>?_⟩
 ·rcases List.mem_cons.1 hk with rfl | hk
  ·exact ⟨rfl,fun a u hu=>h1.2.1 a u (h.c a u hu),fun b o ho=>h1.2.2 b o (h.o b o ho)⟩
  ·exact hm.holds k hk
 ·rw [List.pairwise_cons]
  refine ⟨fun y hy=>?_,hm.sep⟩
  rcases List.mem_cons.1 hy with rfl | hy
  ·exact rG _ _
  ·exact fun hw b hb1 hb2=>hs.1 y hy (hw.imp (fun h=>by cases h) id) b (gx h b hb1) hb2
 ·rcases List.mem_cons.1 hk with rfl | hk
  ·cases hw
  ·exact ⟨k,hk,hw,hb⟩
 ·rcases List.mem_cons.1 hk with rfl | hk
  ·exact ⟨hpB G,by simp,gx h b hb⟩
  ·exact ⟨k,hk,hb⟩
end Go.Sx
namespace Go.Proofs.YtmehinfgdcmmjaaGreat
open Go.Sx
set_option maxRecDepth 20000
set_option linter.unusedSimpArgs false
set_option linter.unusedVariables false
set_option maxHeartbeats 4000000
theorem mF (v:Value) (t:TypeId) (l:List Po.S) (hl:l.length≤4611686018427387904) (hr:Po.Rising l) :
  NCall Tryz.prog 153 [.sl 0 v l.length] [⟨addrOf v,Po.savs l,.row v t 5 l.length⟩] fun r m=>r = .sl 0 v l.length∧m=[⟨addrOf v,Po.savs l,.row v t 5 l.length⟩] :=
 NCall.frozen (F:=noHeap) (enc:=Po.S.vs) (args':=[.hs v l.length]) (iC noHeap (.slice none 0 0) [] aH.nil (by simp) (by simp)) rfl (MemFits.noHeap _) rfl (Po.savs_den l) (fun _ _=>rfl)
  fun G _ hG=>(iC G v l hG hl hr).fits fun r m' h=>⟨.sl 0 v l.length,_,by rw [h.1];rfl,MemFits.eq rfl,rfl,rfl⟩
theorem o5 (F:Heap) (sw:Int) (y:Po.T) (pu u:Value) (a:Addr) (s:Po.S) (hs:Po.tot y≤4611686018427387904) (hf:Po.fits y=true) (hl:(Po.runs sw y s).length≤1000) (hy:Po.At F y pu u) (h8:CellsF F a 0 (denL (Po.cs y pu u++[.int .i64 sw]))) :
  NCall Tryz.prog 112 [.hp a 0,.agg [.int .i64 s.port,.int .i64 s.p0,.int .i64 s.p1,.int .i64 s.p2,.int .i64 s.p3,.raw (.slice none 0 0)]] [hpB F] fun r m=>Tr.Lay1 F ⟨s,Tr.outs sw y s⟩ r m:=by
 refine Tr.case_know (t:=48) ?_
 have cr:=qy F y pu u sw s hs hf (by omega) hy
 have hnd:=Tr.came_nodup sw y hf s
 have hmem:=Tr.outs_mem sw y s
 have hris:=Tr.outs_rising sw y s
 have hol:=Tr.outs_len sw y s
 generalize Po.runs sw y s=R at *
 generalize Tr.outs sw y s=O at *
 have hLR:(R.map (Tr.cameS s)).length=R.length:=List.length_map _
 have hnx:∀ i (h:i<R.length),Po.savs ((R.map (Tr.cameS s)).take (i+1))=Po.savs ((R.map (Tr.cameS s)).take i)++(Tr.cameS s R[i]).av:=fun i h=>by
  rw [List.take_add_one,List.getElem?_map,List.getElem?_eq_getElem h,Po.savs_append]
  simp [Po.savs]
 generalize R.map (Tr.cameS s)=L at *
 have hsc:∀ (w:Value) (L2:List Po.S),L2.Perm L→L2.Pairwise (fun x y=>¬ Po.ahead y x)→NCall Tryz.prog 153 [.sl 0 w L.length] [⟨addrOf w,Po.savs L2,.row w 48 5 L.length⟩] fun r m=>r = .sl 0 w L.length∧m=[⟨addrOf w,Po.savs O,.row w 48 5 O.length⟩]:=fun w L2 hp2 hs2=>by
  have e:=Po.sorted_eq hp2 hnd hs2 hris hmem
  subst e
  rw [← hp2.length_eq]
  exact mF w _ L2 (by omega) hris
 have hL1000:L.length≤1000:=by omega
 obtain ⟨pA,pcap,hpv,hple,hpz⟩:=hy.p.ok
 obtain ⟨A,cap,hv,hle,hz⟩:=hy.l.ok
 clear hf hs hy
 obtain ⟨yk,⟨ypk,ypf,ypv,ypl⟩,yf,yv,yl⟩:=y
 obtain ⟨s0,s1,s2,s3,s4⟩:=s
 simp only [Po.cs,Po.T.k,Po.T.p,Po.T.f,Po.T.v,Po.T.l,Pd.T.k,Pd.T.f,Pd.T.v,Pd.T.l,Tr.cs] at *
 subst hpv hv
 obtain ⟨c0,c1,c2,c3,c4,c5,c6,c7,c8,_⟩:=h8
 refine NCall.pre (mL:=[hpB F,hpB F]) ?_ rfl (MemFits.dup F.le_refl [])
 refine aA Tryz.func112 rfl (by decide) ?_
 repeat' first|((try intro K hK);(with_reducible refine gC ?_);(refine cN [1] cr ?_;rintro _ _ ⟨F1,v1,hle1,hv1,rfl,rfl⟩;refine cR ?_))|((try intro K hK);(with_reducible refine NH.mk ?s ?_);(case s=>(and_intros<;>first|with_reducible rfl|omega|(first | exact hv1.ok | rfl)));conv=>whnf)|(refine aV [1] ?_;try clear hK K)|refine sxW ?_ ?_<;>intro _|refine aW ?_ ?_|(intro K hK _;conv=>whnf)
 have hok1:=hv1.ok
 clear cr c0 c1 c2 c3 c4 c5 c6 c7 c8 hz hpz hle hple hmem hnd hris hol
 refine aD (α:=Value × Nat) (fun (w,i)=>i≤L.length) (fun (w,i)=>[.d,.d,.k,.k,.k,.k,.d,.d,.d,.d,.d,.d,.d,.d,.d,.d,.d,.d,.d,.d,.k,.k,.set (.int .i64 i),.d,.d,.d,.d,.d,.d,.d,.d,.d,.d,.d,.d,.d,.d,.d,.d,.d,.d,.d,.d,.d,.d,.d,.d,.d,.d,.k,.k,.k,.k,.k,.k,.k,.k])
  (fun (w,i)=>[.set (hpB F1),.set (hpB noHeap),.cells [.int .i64 s0,.int .i64 s1,.int .i64 s2,.int .i64 s3,.int .i64 s4,.sl 4 w i],.k,.set ⟨addrOf w,Po.savs (L.take i),.row w 48 5 i⟩]) (fun (w,i)=>L.length - i) (.slice none 0 0,0) (Nat.zero_le _) ?_ ?_ ?_
 ·exact aC
 ·refine ((MemFits.pick (m':=[hpB F1,_,_]) [1,2,3] (by decide) rfl).trans ((MemFits.noHeap _).trans (MemFits.pick (m':=[_,_,_,_]) [1,0,2,3] (by decide) rfl))).trans ?_
  exact (MemFits.nilRow _ 48 5).trans (MemFits.congr rfl)
 (intro ⟨w,i⟩ hi;intro K hK;(conv=>whnf);refine hK _ _ ?_;clear hK K)
 dsimp only
 by_cases hlt:i<R.length
 ·obtain ⟨g0,g1,g2,g3,g4⟩:=aH.get5 (f0:=fun s:Po.S=>.int .i64 s.port) (f1:=fun s=>.int .i64 s.p0) (f2:=fun s=>.int .i64 s.p1) (f3:=fun s=>.int .i64 s.p2) (f4:=fun s=>.int .i64 s.p3) hv1 hlt
  have hnx:=hnx i hlt
  have hln:(Po.savs (L.take i)).length=i*5:=by
   rw [Po.savs_len,List.length_take,Nat.min_eq_left (by omega)]
  have cc:=fun n k=>pg n k
  clear hsc
  generalize R[i]=x at *
  generalize hA:Po.savs (L.take i)=sv at *
  obtain ⟨x0,x1,x2,x3,x4⟩:=x
  simp only [Po.S.av,Tr.cameS] at *
  repeat' first|((try intro K hK);(with_reducible refine gC ?_);refine cP (cc _ _) ?_)|((with_reducible refine gX ?_);with_reducible refine bI 5 ?_)|(refine aV [5] ?_;try clear hK K)|refine sxW ?_ ?_<;>intro _|refine aW ?_ ?_|(intro K hK _;conv=>whnf)
  all_goals
   rename_i v9
   refine aB (v9,i+1) (by show i+1≤L.length;omega) (by show L.length - (i+1)<L.length - i;omega) ?_ (MemFits.pre 5 ?_)
   ·exact aC
   ·simp only [autoM,hnx]
    rfl
 ·obtain rfl:i=L.length:=by omega
  rw [List.take_length]
  repeat' first|(intro K hK;(with_reducible refine gC ?_);first|(refine cN [4] (qG w 48 L (by omega)) ?_;rintro _ _ ⟨rfl,L2,hp2,hs2,rfl⟩;refine cR ?_)|refine cS [4] (hsc w L2 hp2 hs2) ?_)|(refine sxZ ?_;try clear hK K)|refine sxW ?_ ?_<;>intro _|(intro K hK _;conv=>whnf)
  all_goals exact ⟨F1,w,hle1,rfl,MemFits.pick [0,4] (by decide) rfl⟩
abbrev Srt.Lays (F:Heap) (l:List Int) (r:AV) (m:List Blk):Prop:=∃ F' v,F.le F'∧Srt.Row F' v l∧r = .hs v l.length∧m=[hpB F']
theorem mK (F:Heap) (p:Pd.T) (u:Value) (f:Int) (hf : -9223372036854775808≤f∧f≤9223372036854775807) (hs:Pd.size p≤2932031007402) (hu:Pd.Row F u p.l) :
  NCall Tryz.prog 106 [.agg (Pd.cs p u),.int .i64 f] [hpB F] fun r m=>Srt.Lays F (Pd.values f p) r m:=by
 have hln:=Pd.vals_len f p
 have c1:=gA f hf 3 rfl _ F p u [] (.slice none 0 0) (Nat.le_refl _) (by simpa using hs) hu
 have c0:NCall Tryz.prog 135 [.raw (.slice none 0 0),.agg (Pd.cs p u),.int .i64 f] [hpB F] _:=NCall.rowPre c1 rfl
 rw [List.nil_append] at c0
 clear c1
 have hv:=Pd.values_comp f p
 have hsl:=Srt.sort_len (Pd.vals f p)
 refine Go.Sx.NCall.know (K:=fun r m=>∃ v,r = .raw (Srt.cutTo v (Pd.values f p).length)∧MemFits m [hpB F,⟨addrOf v,Srt.av (Srt.comped (Srt.sort (Pd.vals f p))),.row v 3 1 (Pd.vals f p).length⟩]) ?_ fun r m' ⟨v,hr,hm⟩ ⟨w,hw⟩=>?_
 ·rw [← hv]
  have c2:=fun v=>oY v 3 (Pd.vals f p) (by omega)
  have c3:=fun v=>iz v 3 (Srt.sort (Pd.vals f p)) (by omega)
  rw [hsl] at c3
  generalize Srt.comped (Srt.sort (Pd.vals f p))=D2 at *
  generalize (Srt.comp (Srt.sort (Pd.vals f p))).length=n2 at *
  generalize Srt.av (Srt.sort (Pd.vals f p))=D1 at *
  generalize Srt.av (Pd.vals f p)=D0 at *
  generalize (Pd.vals f p).length=n0 at *
  have hok:=hu.ok
  clear hv hsl
  obtain ⟨k,a,v,l⟩:=p
  simp only [ab,Pd.T.l] at *
  refine aA Tryz.func106 rfl (by decide) ?_
  repeat' first|(intro K hK;(with_reducible refine gC ?_);first|(refine cN [0] c0 ?_;rintro _ _ ⟨w',rfl,rfl⟩;refine ⟨rfl,.sl 2 w' n0,rfl,?_⟩;conv=>whnf)|refine cS [2] (c2 _) ?_|refine cS [2] (c3 _) ?_)|(refine sxZ ?_;try clear hK K)|refine sxW ?_ ?_<;>intro _|(intro K hK _;conv=>whnf)
  all_goals exact ⟨_,rfl,MemFits.pick [0,2] (by decide) rfl⟩
 ·have hok:=((hm w hw).1.row (List.mem_cons_of_mem _ (List.mem_cons_self ..))).1
  rw [← hsl,← Srt.comped_len] at hok
  have hrow:=aJ (F:=F) (sz:=1) (enc:=Srt.V) hok (Srt.av_flat _) (fun x _=>rfl)
  obtain ⟨h1,h2⟩:=Srt.row_cut hrow
  rw [hv] at h1 h2
  exact ⟨_,_,by rw [hr];exact h2.symm,hm.trans (MemFits.freeze (m:=[])),_,_,addF.old,h1,rfl,rfl⟩
theorem lE (F:Heap) (f w:Int) (hf : -9223372036854775808≤f∧f≤9223372036854775807):∀ (n:Nat) (p:Pd.T) (u:Value),Pd.size p≤n→Pd.size p≤4611686018427387904→Pd.Row F u p.l →
  NCall Tryz.prog 65 [.agg (Pd.cs p u),.int .i64 f,.int .i64 w] [hpB F] fun r m=>r = .bool (decide (w∈Pd.vals f p))∧m=[hpB F]
 | 0,p,u,hn,_,_=>absurd (Pd.size_pos p) (by omega)
 | n+1,⟨k,a,v,l⟩,u,hn,hs,hu=>by
  refine NCall.fits (K:=fun r m=>r = .bool (decide (w∈Pd.vals f (.mk k a v l)))∧MemFits m [hpB F]) ?_ fun r m' h=>⟨r,_,rfl,h.2,h.1,rfl⟩
  have hu:Pd.Row F u l:=hu
  have hok:=hu.ok
  have e2:Pd.size (.mk k a v l)=1+Pd.sizeL l:=by rw [Pd.size]
  have hll:=Pd.length_le l
  have ih:∀ x∈l,∀ A,Pd.Row F A x.l→NCall Tryz.prog 65 [.agg (Pd.cs x A),.int .i64 f,.int .i64 w] [hpB F] fun r m=>r = .bool (decide (w∈Pd.vals f x))∧m=[hpB F] :=
   fun x hx A hA=>lE F f w hf n x A (by have:=Pd.size_lt (k:=k) (f:=a) (v:=v) hx;omega) (by have:=Pd.size_lt (k:=k) (f:=a) (v:=v) hx;omega) hA
  refine aA Tryz.func65 rfl (by decide) ?_
  rw [ab,Pd.vals]
  by_cases h1:k=3∧a=f∧v=w
  ·obtain ⟨rfl,rfl,rfl⟩:=h1
   repeat' first|((first|intro A B hA hB|intro K hK|skip);first|((with_reducible refine NIf.yes ?s ?_);(case s=>simp ;done);conv=>whnf)|((with_reducible refine NIf.no ?s ?_);(case s=>simp ;done);conv=>whnf))|(refine sxZ ?_;(try clear hK K);try clear hA hB A B)|refine sxW ?_ ?_<;>intro _|(intro K hK _;conv=>whnf)
   all_goals exact ⟨by simp,MemFits.pre 1 rfl⟩
  ·have e:decide (w∈(if k=3∧a=f then [v] else [])++Pd.valsL f l)=decide (w∈Pd.valsL f l):=by
    congr 1
    rw [List.mem_append]
    refine propext ⟨fun h=>h.resolve_left fun h=>?_,.inr⟩
    split at h
    ·rename_i hk
     exact h1 ⟨hk.1,hk.2,(List.mem_singleton.1 h).symm⟩
    ·simp at h
   rw [e]
   by_cases hk:k=3
   ·by_cases ha:a=f
    ·have hv:v≠w:=fun e=>h1 ⟨hk,ha,e⟩
     subst ha hk
     repeat' first|((first|intro A B hA hB|intro K hK|skip);first|((with_reducible refine NIf.yes ?s ?_);(case s=>simp [hv];done);conv=>whnf)|((with_reducible refine NIf.no ?s ?_);(case s=>simp [hv];done);conv=>whnf))|(refine sxZ ?_;(try clear hK K);try clear hA hB A B)|refine sxW ?_ ?_<;>intro _|(intro K hK _;conv=>whnf)
     refine aD (α:=Nat) (fun i=>i≤l.length∧¬ w∈Pd.valsL a (l.take i)) (fun i=>[.k,.k,.k,.k,.k,.k,.set (.bool false),.set (.int .i64 i),.k,.k,.k,.k,.k,.k,.k,.k,.k,.k,.k,.k,.k,.k,.k,.d,.d,.d,.d,.d,.d,.d,.d,.d,.d,.d,.d,.d,.d,.d]) (fun _=>[]) (fun i=>l.length - i) 0 ⟨Nat.zero_le _,by simp [Pd.valsL]⟩ ?_ (MemFits.eq rfl) ?_
     ·exact aC
     (intro i ⟨hi,hno⟩;intro K hK;(conv=>whnf);refine hK _ _ ?_;clear hK K)
     by_cases hlt:i<l.length
     ·have hx:l[i]?=some l[i]:=List.getElem?_eq_getElem hlt
      obtain ⟨A,cap,hA,c0,c1,c2,c3⟩:=hu.get hx
      have hmem:=List.mem_of_getElem? hx
      have c:=ih _ hmem _ hA
      have hnx:=Pd.valsL_take a hlt
      have hyes:w∈Pd.vals a l[i]→w∈Pd.valsL a l:=fun hw=>by
       have e:=Pd.valsL_append a (l.take (i+1)) (l.drop (i+1))
       rw [List.take_append_drop,hnx] at e
       rw [e]
       exact List.mem_append_left _ (List.mem_append_right _ hw)
      have hnext:¬ w∈Pd.vals a l[i]→¬ w∈Pd.valsL a (l.take (i+1)):=fun h1 h2=>by
       rw [hnx] at h2
       rcases List.mem_append.1 h2 with h2 | h2
       ·exact hno h2
       ·exact h1 h2
      clear ih e hnx
      generalize l[i]=x at *
      by_cases hw:w∈Pd.vals a x
      ·rw [decide_eq_true hw] at c
       have hy:=hyes hw
       clear hyes hnext hw
       obtain ⟨xk,xf,xv,xl⟩:=x
       simp only [Pd.cs,Pd.T.k,Pd.T.f,Pd.T.v,Pd.T.l] at c c0 c1 c2 c3 hA
       repeat' first|(intro K hK;(with_reducible refine gC ?_);refine cS [0] c ?_)|(refine sxZ ?_;try clear hK K)|refine sxW ?_ ?_<;>intro _|(intro K hK _;conv=>whnf)
       all_goals exact ⟨by rw [decide_eq_true hy],MemFits.pre 1 rfl⟩
      ·rw [decide_eq_false hw] at c
       have hy:=hnext hw
       clear hyes hnext hw
       obtain ⟨xk,xf,xv,xl⟩:=x
       simp only [Pd.cs,Pd.T.k,Pd.T.f,Pd.T.v,Pd.T.l] at c c0 c1 c2 c3 hA
       repeat' first|(intro K hK;(with_reducible refine gC ?_);refine cS [0] c ?_)|(refine sxZ ?_;try clear hK K)|refine sxW ?_ ?_<;>intro _|(intro K hK _;conv=>whnf)
       refine aB (i+1) ⟨hlt,hy⟩ (by omega) ?_ (MemFits.eq rfl)
       exact aC
     ·have hkl:i=l.length:=by omega
      subst hkl
      rw [List.take_length] at hno
      repeat' first|(refine sxZ ?_;try clear hK K)|refine sxW ?_ ?_<;>intro _|(intro K hK _;conv=>whnf)
      all_goals exact ⟨by rw [decide_eq_false hno],MemFits.pre 1 rfl⟩
    ·repeat' first|(refine sxZ ?_;try clear hK K)|refine sxW ?_ ?_<;>intro _|(intro K hK _;conv=>whnf)
     refine aD (α:=Nat) (fun i=>i≤l.length∧¬ w∈Pd.valsL f (l.take i)) (fun i=>[.k,.k,.k,.k,.k,.k,.set (.bool false),.set (.int .i64 i),.k,.k,.k,.k,.k,.k,.k,.k,.k,.k,.k,.k,.k,.k,.k,.d,.d,.d,.d,.d,.d,.d,.d,.d,.d,.d,.d,.d,.d,.d]) (fun _=>[]) (fun i=>l.length - i) 0 ⟨Nat.zero_le _,by simp [Pd.valsL]⟩ ?_ (MemFits.eq rfl) ?_
     ·exact aC
     (intro i ⟨hi,hno⟩;intro K hK;(conv=>whnf);refine hK _ _ ?_;clear hK K)
     by_cases hlt:i<l.length
     ·have hx:l[i]?=some l[i]:=List.getElem?_eq_getElem hlt
      obtain ⟨A,cap,hA,c0,c1,c2,c3⟩:=hu.get hx
      have hmem:=List.mem_of_getElem? hx
      have c:=ih _ hmem _ hA
      have hnx:=Pd.valsL_take f hlt
      have hyes:w∈Pd.vals f l[i]→w∈Pd.valsL f l:=fun hw=>by
       have e:=Pd.valsL_append f (l.take (i+1)) (l.drop (i+1))
       rw [List.take_append_drop,hnx] at e
       rw [e]
       exact List.mem_append_left _ (List.mem_append_right _ hw)
      have hnext:¬ w∈Pd.vals f l[i]→¬ w∈Pd.valsL f (l.take (i+1)):=fun h1 h2=>by
       rw [hnx] at h2
       rcases List.mem_append.1 h2 with h2 | h2
       ·exact hno h2
       ·exact h1 h2
      clear ih e hnx
      generalize l[i]=x at *
      by_cases hw:w∈Pd.vals f x
      ·rw [decide_eq_true hw] at c
       have hy:=hyes hw
       clear hyes hnext hw
       obtain ⟨xk,xf,xv,xl⟩:=x
       simp only [Pd.cs,Pd.T.k,Pd.T.f,Pd.T.v,Pd.T.l] at c c0 c1 c2 c3 hA
       repeat' first|(intro K hK;(with_reducible refine gC ?_);refine cS [0] c ?_)|(refine sxZ ?_;try clear hK K)|refine sxW ?_ ?_<;>intro _|(intro K hK _;conv=>whnf)
       all_goals exact ⟨by rw [decide_eq_true hy],MemFits.pre 1 rfl⟩
      ·rw [decide_eq_false hw] at c
       have hy:=hnext hw
       clear hyes hnext hw
       obtain ⟨xk,xf,xv,xl⟩:=x
       simp only [Pd.cs,Pd.T.k,Pd.T.f,Pd.T.v,Pd.T.l] at c c0 c1 c2 c3 hA
       repeat' first|(intro K hK;(with_reducible refine gC ?_);refine cS [0] c ?_)|(refine sxZ ?_;try clear hK K)|refine sxW ?_ ?_<;>intro _|(intro K hK _;conv=>whnf)
       refine aB (i+1) ⟨hlt,hy⟩ (by omega) ?_ (MemFits.eq rfl)
       exact aC
     ·have hkl:i=l.length:=by omega
      subst hkl
      rw [List.take_length] at hno
      repeat' first|(refine sxZ ?_;try clear hK K)|refine sxW ?_ ?_<;>intro _|(intro K hK _;conv=>whnf)
      all_goals exact ⟨by rw [decide_eq_false hno],MemFits.pre 1 rfl⟩
   ·repeat' first|(refine sxZ ?_;try clear hK K)|refine sxW ?_ ?_<;>intro _|(intro K hK _;conv=>whnf)
    refine aD (α:=Nat) (fun i=>i≤l.length∧¬ w∈Pd.valsL f (l.take i)) (fun i=>[.k,.k,.k,.k,.k,.k,.set (.bool false),.set (.int .i64 i),.k,.k,.k,.k,.k,.k,.k,.k,.k,.k,.k,.k,.k,.k,.k,.d,.d,.d,.d,.d,.d,.d,.d,.d,.d,.d,.d,.d,.d,.d]) (fun _=>[]) (fun i=>l.length - i) 0 ⟨Nat.zero_le _,by simp [Pd.valsL]⟩ ?_ (MemFits.eq rfl) ?_
    ·exact aC
    (intro i ⟨hi,hno⟩;intro K hK;(conv=>whnf);refine hK _ _ ?_;clear hK K)
    by_cases hlt:i<l.length
    ·have hx:l[i]?=some l[i]:=List.getElem?_eq_getElem hlt
     obtain ⟨A,cap,hA,c0,c1,c2,c3⟩:=hu.get hx
     have hmem:=List.mem_of_getElem? hx
     have c:=ih _ hmem _ hA
     have hnx:=Pd.valsL_take f hlt
     have hyes:w∈Pd.vals f l[i]→w∈Pd.valsL f l:=fun hw=>by
      have e:=Pd.valsL_append f (l.take (i+1)) (l.drop (i+1))
      rw [List.take_append_drop,hnx] at e
      rw [e]
      exact List.mem_append_left _ (List.mem_append_right _ hw)
     have hnext:¬ w∈Pd.vals f l[i]→¬ w∈Pd.valsL f (l.take (i+1)):=fun h1 h2=>by
      rw [hnx] at h2
      rcases List.mem_append.1 h2 with h2 | h2
      ·exact hno h2
      ·exact h1 h2
     clear ih e hnx
     generalize l[i]=x at *
     by_cases hw:w∈Pd.vals f x
     ·rw [decide_eq_true hw] at c
      have hy:=hyes hw
      clear hyes hnext hw
      obtain ⟨xk,xf,xv,xl⟩:=x
      simp only [Pd.cs,Pd.T.k,Pd.T.f,Pd.T.v,Pd.T.l] at c c0 c1 c2 c3 hA
      repeat' first|(intro K hK;(with_reducible refine gC ?_);refine cS [0] c ?_)|(refine sxZ ?_;try clear hK K)|refine sxW ?_ ?_<;>intro _|(intro K hK _;conv=>whnf)
      all_goals exact ⟨by rw [decide_eq_true hy],MemFits.pre 1 rfl⟩
     ·rw [decide_eq_false hw] at c
      have hy:=hnext hw
      clear hyes hnext hw
      obtain ⟨xk,xf,xv,xl⟩:=x
      simp only [Pd.cs,Pd.T.k,Pd.T.f,Pd.T.v,Pd.T.l] at c c0 c1 c2 c3 hA
      repeat' first|(intro K hK;(with_reducible refine gC ?_);refine cS [0] c ?_)|(refine sxZ ?_;try clear hK K)|refine sxW ?_ ?_<;>intro _|(intro K hK _;conv=>whnf)
      refine aB (i+1) ⟨hlt,hy⟩ (by omega) ?_ (MemFits.eq rfl)
      exact aC
    ·have hkl:i=l.length:=by omega
     subst hkl
     rw [List.take_length] at hno
     repeat' first|(refine sxZ ?_;try clear hK K)|refine sxW ?_ ?_<;>intro _|(intro K hK _;conv=>whnf)
     all_goals exact ⟨by rw [decide_eq_false hno],MemFits.pre 1 rfl⟩
theorem Srt.know {f:FuncId} {args:List AV} {F:Heap} {t:TypeId} {m:List Blk} {l:List Int} (h:NCall Tryz.prog f args m fun r m'=>∃ v,r.den=aw v∧MemFits m' [hpB F,⟨addrOf v,Srt.av l,.row v t 1 l.length⟩]) :
  NCall Tryz.prog f args m fun r m'=>Srt.Lays F l r m':=by
 refine Go.Sx.NCall.know h fun r m' ⟨v,hr,hm⟩ ⟨w,hw⟩=>?_
 have hok:=((hm w hw).1.row (List.mem_cons_of_mem _ (List.mem_cons_self ..))).1
 have hrow:=aJ (F:=F) (sz:=1) (enc:=Srt.V) hok (Srt.av_flat _) (fun x _=>rfl)
 exact ⟨.hs v l.length,_,hr.symm,hm.trans (MemFits.freeze (m:=[])),_,v,addF.old,hrow,rfl,rfl⟩
theorem Srt.reads {F:Heap} {v:Value} {l:List Int} (h:Srt.Row F v l):(Srt.av l).length=l.length*1∧CellsF F (addrOf v) 0 (denL (Srt.av l)):=by
 rw [Srt.av_flat]
 exact ⟨by rw [Srt.av_len];omega,h.all.1⟩
theorem Srt.ones (l:List Int):Go.Sx.ones (Srt.av l)=true:=by
 induction l with
 | nil=>rfl
 | cons x l ih=>simpa [Srt.av,Go.Sx.ones] using ih
theorem Po.values_comp (f:Int) (x:Po.T):Srt.comp (Srt.sort (Po.vals f x))=Po.values f x:=Pd.comp_once _
theorem f9 (f:Int) (hf : -9223372036854775808≤f∧f≤9223372036854775807):∀ (n:Nat) (F:Heap) (x:Po.T) (pu u:Value) (out:List Int) (w:Value),Po.tot x≤n→out.length+Po.tot x≤2932031007402→Po.At F x pu u →
  NCall Tryz.prog 78 [.sl 1 w out.length,.agg (Po.cs x pu u),.int .i64 f] [hpB F,⟨addrOf w,Srt.av out,.row w 3 1 out.length⟩]
   fun r m=>∃ F' w',F.le F'∧r = .sl 1 w' (out++Po.vals f x).length∧m=[hpB F',⟨addrOf w',Srt.av (out++Po.vals f x),.row w' 3 1 (out++Po.vals f x).length⟩]
 | 0,F,x,pu,u,out,w,hn,_,_=>absurd (Po.tot_pos x) (by omega)
 | n+1,F,⟨k,p,a,v,l⟩,pu,u,out,w,hn,hs,hx=>by
  refine NCall.fits (K:=fun r m=>∃ F' w',F.le F'∧r = .sl 1 w' (out++Po.vals f (.mk k p a v l)).length∧MemFits m [hpB F',⟨addrOf w',Srt.av (out++Po.vals f (.mk k p a v l)),.row w' 3 1 (out++Po.vals f (.mk k p a v l)).length⟩]) ?_ fun r m' ⟨F',w',h0,h1,h2⟩=>⟨r,_,rfl,h2,F',w',h0,h1,rfl⟩
  have hu:Po.Row F u l:=hx.l
  have hpu:Pd.Row F pu p.l:=hx.p
  have hok:=hu.ok
  have hpok:=hpu.ok
  have e2:=Po.tot_mk k p a v l
  have hll:=Po.length_le l
  have ih:∀ G,∀ x∈l,∀ pA A,Po.At G x pA A→∀ (o:List Int) (w:Value),o.length+Po.tot x≤2932031007402→NCall Tryz.prog 78 [.sl 1 w o.length,.agg (Po.cs x pA A),.int .i64 f] [hpB G,⟨addrOf w,Srt.av o,.row w 3 1 o.length⟩]
    fun r m=>∃ F' w',G.le F'∧r = .sl 1 w' (o++Po.vals f x).length∧m=[hpB F',⟨addrOf w',Srt.av (o++Po.vals f x),.row w' 3 1 (o++Po.vals f x).length⟩] :=
   fun G x hx pA A hA o w ho=>f9 f hf n G x pA A o w (by have:=Po.tot_lt (k:=k) (q:=p) (f:=a) (v:=v) hx;omega) ho hA
  have cv:=mK F p pu f hf (by omega) hpu
  have hpl:=Po.pvalues_len f p
  have hol:out.length≤out.length:=Nat.le_refl _
  have hav:=Srt.av_len out
  have hfin:∀ o1,out++(if k=2∧a=f then [v] else [])++Pd.values f p=o1→out++Po.vals f (.mk k p a v l)=o1++Po.valsL f l:=fun o1 e=>by rw [Po.vals,← e];simp [List.append_assoc]
  have hvl:∀ i,(Po.valsL f (l.take i)).length≤Po.totL (l.take i):=fun i=>Po.valsL_len f _
  generalize hL:Pd.values f p=L at *
  clear hL hx
  rw [ax]
  obtain ⟨pk,pf,pv,pl⟩:=p
  simp only [ab,Pd.T.k,Pd.T.f,Pd.T.v,Pd.T.l] at *
  refine aA Tryz.func78 rfl (by decide) ?_
  by_cases hk:k=2
  ·subst hk
   by_cases ha:a=f
   ·subst ha
    have hLo:=fun (F1:Heap) (v1:Value) (h:Srt.Row F1 v1 L)=>h.ok
    have hfin:=hfin (out++[v]++L) (by simp)
    rw [hfin]
    have hol1:(out++[v]++L).length=out.length+(0+1)+L.length:=by
     simp only [List.length_append,List.length_cons,List.length_nil]
    have hav1:Srt.av (out++[v]++L)=Srt.av out++Srt.av [v]++Srt.av L:=by simp only [Srt.av_append]
    clear hfin hn
    generalize ho1:out++[v]++L=o1 at *
    generalize Srt.av out=ao at *
    repeat' first|((try intro K hK);(with_reducible refine gC ?_);(refine cN [0] cv ?_;rintro _ _ ⟨F1,v1,hle1,hrow,rfl,rfl⟩;refine cR ?_))|((try intro K hK);(refine NRd.of (Srt.av L) (Srt.reads hrow).1 (Srt.reads hrow).2 ?_;conv=>whnf))|((try intro K hK);(with_reducible refine NH.mk ?s ?_);(case s=>(and_intros<;>first|with_reducible rfl|omega|(first | exact hrow.ok | exact Srt.ones _ | rfl)));conv=>whnf)|(refine sxZ ?_;try clear hK K)|refine sxW ?_ ?_<;>intro _|(intro K hK _;conv=>whnf)|(intro _;conv=>whnf)
    rename_i w2
    have e0:o1++Po.valsL a (l.take 0)=o1:=by simp [Po.valsL]
    refine aD (α:=Heap × Value × Nat) (fun (G,w,i)=>F.le G∧i≤l.length) (fun (G,w,i)=>[.set (.sl 1 w (o1++Po.valsL a (l.take i)).length),.k,.k,.k,.k,.k,.k,.k,.d,.k,.k,.k,.k,.k,.k,.k,.k,.k,.k,.k,.k,.k,.k,.k,.k,.k,.k,.k,.k,.k,.k,.k,.set (.int .i64 i),.d,.d,.d,.d,.d,.d,.d,.d,.k]) (fun (G,w,i)=>[.set (hpB G),.set ⟨addrOf w,Srt.av (o1++Po.valsL a (l.take i)),.row w 3 1 (o1++Po.valsL a (l.take i)).length⟩]) (fun (G,w,i)=>l.length - i) (F1,w2,0) ⟨hle1,Nat.zero_le _⟩ ?_ ?_ ?_
    ·dsimp only
     rw [e0,hol1]
     exact aC
    ·dsimp only
     rw [e0]
     exact MemFits.congr (by simp only [autoM,hav1,hol1,List.append_nil];try rfl)
    (intro ⟨G,w,i⟩ ⟨hle,hi⟩;intro K hK;(conv=>whnf);refine hK _ _ ?_;clear hK K)
    dsimp only
    by_cases hlt:i<l.length
    ·have hx:l[i]?=some l[i]:=List.getElem?_eq_getElem hlt
     obtain ⟨pA,pcap,A,cap,hA,c0,c1,c2,c3,c4,c5,c6,c7⟩:=(Po.Row.mono hle hu).get hx
     have hAo:=hA.l.ok
     have hAp:=hA.p.ok
     have hmem:=List.mem_of_getElem? hx
     have hst:=Po.totL_take hlt
     have hle2:=Po.totL_le (l:=l) (k:=i+1)
     have hvi:=hvl i
     have hO:o1++Po.valsL a (l.take (i+1))=o1++Po.valsL a (l.take i)++Po.vals a l[i]:=by rw [Po.valsL_take _ hlt,List.append_assoc]
     have hlo:(o1++Po.valsL a (l.take i)).length=o1.length+(Po.valsL a (l.take i)).length:=List.length_append
     have c:=ih G _ hmem _ _ hA (o1++Po.valsL a (l.take i)) w (by omega)
     rw [← hO] at c
     clear ih hvl hO
     generalize l[i]=y at *
     obtain ⟨yk,⟨ypk,ypf,ypv,ypl⟩,yf,yv,yl⟩:=y
     simp only [Po.cs,Po.T.k,Po.T.p,Po.T.f,Po.T.v,Po.T.l,Pd.T.k,Pd.T.f,Pd.T.v,Pd.T.l] at c c0 c1 c2 c3 c4 c5 c6 c7 hAo hAp
     generalize o1++Po.valsL a (l.take i)=O at *
     generalize hO2:o1++Po.valsL a (l.take (i+1))=O2 at *
     repeat' first|(intro K hK;(with_reducible refine gC ?_);(refine cN [0,1] c ?_;rintro _ _ ⟨G',w',hle3,rfl,rfl⟩;refine cR ?_))|(refine sxZ ?_;try clear hK K)|refine sxW ?_ ?_<;>intro _|(intro K hK _;conv=>whnf)
     refine aB (G',w',i+1) ⟨hle.trans hle3,hlt⟩ (by show l.length - (i+1)<l.length - i;omega) ?_ (MemFits.pre 4 ?_)
     ·dsimp only
      rw [hO2]
      exact aC
     ·simp only [autoM,List.take,hO2]
      try rfl
    ·have hkl:i=l.length:=by omega
     subst hkl
     rw [List.take_length]
     clear ih
     repeat' first|(refine sxZ ?_;try clear hK K)|refine sxW ?_ ?_<;>intro _|(intro K hK _;conv=>whnf)
     all_goals exact ⟨G,w,hle,rfl,MemFits.pre 2 rfl⟩
   ·rw [if_neg (fun h=>ha h.2)] at hfin
    have hLo:=fun (F1:Heap) (v1:Value) (h:Srt.Row F1 v1 L)=>h.ok
    have hfin:=hfin (out++L) (by simp)
    rw [hfin]
    have hol1:(out++L).length=out.length+L.length:=by
     simp only [List.length_append,List.length_cons,List.length_nil]
    have hav1:Srt.av (out++L)=Srt.av out++Srt.av L:=by simp only [Srt.av_append]
    clear hfin hn
    generalize ho1:out++L=o1 at *
    generalize Srt.av out=ao at *
    repeat' first|((try intro K hK);(with_reducible refine gC ?_);(refine cN [0] cv ?_;rintro _ _ ⟨F1,v1,hle1,hrow,rfl,rfl⟩;refine cR ?_))|((try intro K hK);(refine NRd.of (Srt.av L) (Srt.reads hrow).1 (Srt.reads hrow).2 ?_;conv=>whnf))|((try intro K hK);(with_reducible refine NH.mk ?s ?_);(case s=>(and_intros<;>first|with_reducible rfl|omega|(first | exact hrow.ok | exact Srt.ones _ | rfl)));conv=>whnf)|(refine sxZ ?_;try clear hK K)|refine sxW ?_ ?_<;>intro _|(intro K hK _;conv=>whnf)|(intro _;conv=>whnf)
    rename_i w2
    have e0:o1++Po.valsL f (l.take 0)=o1:=by simp [Po.valsL]
    refine aD (α:=Heap × Value × Nat) (fun (G,w,i)=>F.le G∧i≤l.length) (fun (G,w,i)=>[.set (.sl 1 w (o1++Po.valsL f (l.take i)).length),.k,.k,.k,.k,.k,.k,.k,.d,.k,.k,.k,.k,.k,.k,.k,.k,.k,.k,.k,.k,.k,.k,.k,.k,.k,.k,.k,.k,.k,.k,.k,.set (.int .i64 i),.d,.d,.d,.d,.d,.d,.d,.d,.k]) (fun (G,w,i)=>[.set (hpB G),.set ⟨addrOf w,Srt.av (o1++Po.valsL f (l.take i)),.row w 3 1 (o1++Po.valsL f (l.take i)).length⟩]) (fun (G,w,i)=>l.length - i) (F1,w2,0) ⟨hle1,Nat.zero_le _⟩ ?_ ?_ ?_
    ·dsimp only
     rw [e0,hol1]
     exact aC
    ·dsimp only
     rw [e0]
     exact MemFits.congr (by simp only [autoM,hav1,hol1,List.append_nil];try rfl)
    (intro ⟨G,w,i⟩ ⟨hle,hi⟩;intro K hK;(conv=>whnf);refine hK _ _ ?_;clear hK K)
    dsimp only
    by_cases hlt:i<l.length
    ·have hx:l[i]?=some l[i]:=List.getElem?_eq_getElem hlt
     obtain ⟨pA,pcap,A,cap,hA,c0,c1,c2,c3,c4,c5,c6,c7⟩:=(Po.Row.mono hle hu).get hx
     have hAo:=hA.l.ok
     have hAp:=hA.p.ok
     have hmem:=List.mem_of_getElem? hx
     have hst:=Po.totL_take hlt
     have hle2:=Po.totL_le (l:=l) (k:=i+1)
     have hvi:=hvl i
     have hO:o1++Po.valsL f (l.take (i+1))=o1++Po.valsL f (l.take i)++Po.vals f l[i]:=by rw [Po.valsL_take _ hlt,List.append_assoc]
     have hlo:(o1++Po.valsL f (l.take i)).length=o1.length+(Po.valsL f (l.take i)).length:=List.length_append
     have c:=ih G _ hmem _ _ hA (o1++Po.valsL f (l.take i)) w (by omega)
     rw [← hO] at c
     clear ih hvl hO
     generalize l[i]=y at *
     obtain ⟨yk,⟨ypk,ypf,ypv,ypl⟩,yf,yv,yl⟩:=y
     simp only [Po.cs,Po.T.k,Po.T.p,Po.T.f,Po.T.v,Po.T.l,Pd.T.k,Pd.T.f,Pd.T.v,Pd.T.l] at c c0 c1 c2 c3 c4 c5 c6 c7 hAo hAp
     generalize o1++Po.valsL f (l.take i)=O at *
     generalize hO2:o1++Po.valsL f (l.take (i+1))=O2 at *
     repeat' first|(intro K hK;(with_reducible refine gC ?_);(refine cN [0,1] c ?_;rintro _ _ ⟨G',w',hle3,rfl,rfl⟩;refine cR ?_))|(refine sxZ ?_;try clear hK K)|refine sxW ?_ ?_<;>intro _|(intro K hK _;conv=>whnf)
     refine aB (G',w',i+1) ⟨hle.trans hle3,hlt⟩ (by show l.length - (i+1)<l.length - i;omega) ?_ (MemFits.pre 3 ?_)
     ·dsimp only
      rw [hO2]
      exact aC
     ·simp only [autoM,List.take,hO2]
      try rfl
    ·have hkl:i=l.length:=by omega
     subst hkl
     rw [List.take_length]
     clear ih
     repeat' first|(refine sxZ ?_;try clear hK K)|refine sxW ?_ ?_<;>intro _|(intro K hK _;conv=>whnf)
     all_goals exact ⟨G,w,hle,rfl,MemFits.pre 2 rfl⟩
  ·rw [if_neg (fun h=>hk h.1)] at hfin
   have hLo:=fun (F1:Heap) (v1:Value) (h:Srt.Row F1 v1 L)=>h.ok
   have hfin:=hfin (out++L) (by simp)
   rw [hfin]
   have hol1:(out++L).length=out.length+L.length:=by
    simp only [List.length_append,List.length_cons,List.length_nil]
   have hav1:Srt.av (out++L)=Srt.av out++Srt.av L:=by simp only [Srt.av_append]
   clear hfin hn
   generalize ho1:out++L=o1 at *
   generalize Srt.av out=ao at *
   repeat' first|((try intro K hK);(with_reducible refine gC ?_);(refine cN [0] cv ?_;rintro _ _ ⟨F1,v1,hle1,hrow,rfl,rfl⟩;refine cR ?_))|((try intro K hK);(refine NRd.of (Srt.av L) (Srt.reads hrow).1 (Srt.reads hrow).2 ?_;conv=>whnf))|((try intro K hK);(with_reducible refine NH.mk ?s ?_);(case s=>(and_intros<;>first|with_reducible rfl|omega|(first | exact hrow.ok | exact Srt.ones _ | rfl)));conv=>whnf)|(refine sxZ ?_;try clear hK K)|refine sxW ?_ ?_<;>intro _|(intro K hK _;conv=>whnf)|(intro _;conv=>whnf)
   rename_i w2
   have e0:o1++Po.valsL f (l.take 0)=o1:=by simp [Po.valsL]
   refine aD (α:=Heap × Value × Nat) (fun (G,w,i)=>F.le G∧i≤l.length) (fun (G,w,i)=>[.set (.sl 1 w (o1++Po.valsL f (l.take i)).length),.k,.k,.k,.k,.k,.k,.k,.d,.k,.k,.k,.k,.k,.k,.k,.k,.k,.k,.k,.k,.k,.k,.k,.k,.k,.k,.k,.k,.k,.k,.k,.set (.int .i64 i),.d,.d,.d,.d,.d,.d,.d,.d,.k]) (fun (G,w,i)=>[.set (hpB G),.set ⟨addrOf w,Srt.av (o1++Po.valsL f (l.take i)),.row w 3 1 (o1++Po.valsL f (l.take i)).length⟩]) (fun (G,w,i)=>l.length - i) (F1,w2,0) ⟨hle1,Nat.zero_le _⟩ ?_ ?_ ?_
   ·dsimp only
    rw [e0,hol1]
    exact aC
   ·dsimp only
    rw [e0]
    exact MemFits.congr (by simp only [autoM,hav1,hol1,List.append_nil];try rfl)
   (intro ⟨G,w,i⟩ ⟨hle,hi⟩;intro K hK;(conv=>whnf);refine hK _ _ ?_;clear hK K)
   dsimp only
   by_cases hlt:i<l.length
   ·have hx:l[i]?=some l[i]:=List.getElem?_eq_getElem hlt
    obtain ⟨pA,pcap,A,cap,hA,c0,c1,c2,c3,c4,c5,c6,c7⟩:=(Po.Row.mono hle hu).get hx
    have hAo:=hA.l.ok
    have hAp:=hA.p.ok
    have hmem:=List.mem_of_getElem? hx
    have hst:=Po.totL_take hlt
    have hle2:=Po.totL_le (l:=l) (k:=i+1)
    have hvi:=hvl i
    have hO:o1++Po.valsL f (l.take (i+1))=o1++Po.valsL f (l.take i)++Po.vals f l[i]:=by rw [Po.valsL_take _ hlt,List.append_assoc]
    have hlo:(o1++Po.valsL f (l.take i)).length=o1.length+(Po.valsL f (l.take i)).length:=List.length_append
    have c:=ih G _ hmem _ _ hA (o1++Po.valsL f (l.take i)) w (by omega)
    rw [← hO] at c
    clear ih hvl hO
    generalize l[i]=y at *
    obtain ⟨yk,⟨ypk,ypf,ypv,ypl⟩,yf,yv,yl⟩:=y
    simp only [Po.cs,Po.T.k,Po.T.p,Po.T.f,Po.T.v,Po.T.l,Pd.T.k,Pd.T.f,Pd.T.v,Pd.T.l] at c c0 c1 c2 c3 c4 c5 c6 c7 hAo hAp
    generalize o1++Po.valsL f (l.take i)=O at *
    generalize hO2:o1++Po.valsL f (l.take (i+1))=O2 at *
    repeat' first|(intro K hK;(with_reducible refine gC ?_);(refine cN [0,1] c ?_;rintro _ _ ⟨G',w',hle3,rfl,rfl⟩;refine cR ?_))|(refine sxZ ?_;try clear hK K)|refine sxW ?_ ?_<;>intro _|(intro K hK _;conv=>whnf)
    refine aB (G',w',i+1) ⟨hle.trans hle3,hlt⟩ (by show l.length - (i+1)<l.length - i;omega) ?_ (MemFits.pre 3 ?_)
    ·dsimp only
     rw [hO2]
     exact aC
    ·simp only [autoM,List.take,hO2]
     try rfl
   ·have hkl:i=l.length:=by omega
    subst hkl
    rw [List.take_length]
    clear ih
    repeat' first|(refine sxZ ?_;try clear hK K)|refine sxW ?_ ?_<;>intro _|(intro K hK _;conv=>whnf)
    all_goals exact ⟨G,w,hle,rfl,MemFits.pre 2 rfl⟩
theorem dm (F:Heap) (x:Po.T) (pu u:Value) (f:Int) (hf : -9223372036854775808≤f∧f≤9223372036854775807) (hs:Po.tot x≤2932031007402) (hx:Po.At F x pu u) :
  NCall Tryz.prog 46 [.agg (Po.cs x pu u),.int .i64 f] [hpB F] fun r m=>Srt.Lays F (Po.values f x) r m:=by
 have hln:=Po.vals_len f x
 have c1:=f9 f hf _ F x pu u [] (.slice none 0 0) (Nat.le_refl _) (by simpa using hs) hx
 have c0:NCall Tryz.prog 78 [.raw (.slice none 0 0),.agg (Po.cs x pu u),.int .i64 f] [hpB F] _:=NCall.rowPre c1 rfl
 rw [List.nil_append] at c0
 clear c1
 have hv:=Po.values_comp f x
 have hsl:=Srt.sort_len (Po.vals f x)
 refine Go.Sx.NCall.know (K:=fun r m=>∃ F' v,F.le F'∧r = .raw (Srt.cutTo v (Po.values f x).length)∧MemFits m [hpB F',⟨addrOf v,Srt.av (Srt.comped (Srt.sort (Po.vals f x))),.row v 3 1 (Po.vals f x).length⟩]) ?_ fun r m' ⟨F',v,hF,hr,hm⟩ ⟨w,hw⟩=>?_
 ·rw [← hv]
  have c2:=fun v=>oY v 3 (Po.vals f x) (by omega)
  have c3:=fun v=>iz v 3 (Srt.sort (Po.vals f x)) (by omega)
  rw [hsl] at c3
  generalize Srt.comped (Srt.sort (Po.vals f x))=D2 at *
  generalize (Srt.comp (Srt.sort (Po.vals f x))).length=n2 at *
  generalize Srt.av (Srt.sort (Po.vals f x))=D1 at *
  generalize Srt.av (Po.vals f x)=D0 at *
  generalize (Po.vals f x).length=n0 at *
  have hok:=hx.l.ok
  have hpok:=hx.p.ok
  clear hv hsl
  obtain ⟨k,⟨pk,pf,pv,pl⟩,a,v,l⟩:=x
  simp only [ax,Po.T.l,Po.T.p,Pd.T.k,Pd.T.f,Pd.T.v,Pd.T.l] at *
  refine aA Tryz.func46 rfl (by decide) ?_
  repeat' first|(intro K hK;(with_reducible refine gC ?_);first|(refine cN [0] c0 ?_;rintro _ _ ⟨F1,w',hle,rfl,rfl⟩;refine ⟨rfl,.sl 2 w' n0,rfl,?_⟩;conv=>whnf)|refine cS [2] (c2 _) ?_|refine cS [2] (c3 _) ?_)|(refine sxZ ?_;try clear hK K)|refine sxW ?_ ?_<;>intro _|(intro K hK _;conv=>whnf)
  all_goals exact ⟨F1,_,hle,rfl,MemFits.pick [0,2] (by decide) rfl⟩
 ·have hok:=((hm w hw).1.row (List.mem_cons_of_mem _ (List.mem_cons_self ..))).1
  rw [← hsl,← Srt.comped_len] at hok
  have hrow:=aJ (F:=F') (sz:=1) (enc:=Srt.V) hok (Srt.av_flat _) (fun x _=>rfl)
  obtain ⟨h1,h2⟩:=Srt.row_cut hrow
  rw [hv] at h1 h2
  exact ⟨_,_,by rw [hr];exact h2.symm,hm.trans (MemFits.freeze (m:=[])),_,_,hF.trans addF.old,h1,rfl,rfl⟩
end Go.Proofs.YtmehinfgdcmmjaaGreat
