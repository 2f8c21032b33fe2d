import Derived.Test.YtaolcaggdddkpaaGreatSxC
import Derived.Test.YtaolcaggdddkpaaGreatJ7
import Derived.Test.YtaolcaggdddkpaaGreatJ2
import Derived.Test.YtaolcaggdddkpaaGreatJ8
namespace Go.Sx
open Go.RowKit
section
variable {P:Program}
set_option linter.unusedVariables false
theorem zeroCells_eq (z:List AV) (n:Nat) (hz:0<z.length):(Builtin.zeroCells (denL z).toArray n).toList=denL (repCells z n):=by
 unfold Builtin.zeroCells
 have h:=rep_eq z n (.inl hz)
 rw [show (denL z).toArray.size=z.length by simp [denL_length]] at h ⊢
 rw [h]
theorem addr_zero (g off:Nat):(⟨g,0,none⟩:Addr).add off=⟨g,off,none⟩:=by
 unfold Addr.add
 split<;>simp_all
theorem row_store {m:List Blk} {w:World} (hm:MemOk m w) {j:Nat} {a:Addr} {cs:List AV} {v:Value} {t:TypeId} {sz n:Nat} (hj:m[j]?=some ⟨a,cs,.row v t sz n⟩) (hn:0<n) {off:Nat} {xs:List AV} (hlen:off+xs.length≤cs.length) (hones:ones xs=true) :
  ∃ w',(storeCells (a.add off) (denL xs)).run P w = .ok () w'∧MemOk (m.set j ⟨a,cs.take off++xs++cs.drop (off+xs.length),.row v t sz n⟩) w'∧Fr (wrs m) w w'∧Fresh (own m) w (m.set j ⟨a,cs.take off++xs++cs.drop (off+xs.length),.row v t sz n⟩):=by
 have hmem:=List.mem_of_getElem? hj
 have hh:=hm.holds _ hmem
 have hwr:(⟨a,cs,.row v t sz n⟩:Blk).wr=true:=rfl
 unfold Blk.holds at hh
 obtain ⟨⟨h5,h6⟩,h7⟩:=hh
 rcases h6 with ⟨hv,h0⟩ | ⟨g,cap,cur,hv,hbg,hg,hc1,hc2,hc3,hc4⟩
 ·exact absurd h0 (by omega)
 ·dsimp only at h5 h7 hc4
  have hba:a=⟨g,0,none⟩:=by rw [h7,hv];rfl
  have hbn:(⟨a,cs,.row v t sz n⟩:Blk).bn=some g:=by simp [Blk.bn,hv,Value.ownBlock]
  have hlc:cs.length≤cur.size:=by
   have:=congrArg List.length hc4
   rw [denL_length] at h5
   simp [denL_length] at this
   omega
  have hst:=run_storeCells_at P g off t (denL xs) 0 cur w hg (by rw [denL_length];omega) (ones_spec hones)
  have hadd:a.add off=⟨g,off,none⟩:=by rw [hba];exact addr_zero g off
  refine ⟨w.setRow g (cur.toList.take (off+0)++denL xs++cur.toList.drop (off+0+(denL xs).length)).toArray,?_,?_,?_,?_⟩
  ·rw [hadd];exact hst
  ·refine hm.set (by simp) hj hwr (fun c hc hlt=>setRow_other w g c _ (fun e=>hc (by rw [hbn,e]))) ?_ rfl (.inr (.inl ?_))
   ·unfold Blk.holds
    dsimp only
    have hl2:(cs.take off++xs++cs.drop (off+xs.length)).length=cs.length:=by simp;omega
    have hcs:(denL cs).length=n*sz:=h5
    have e1:denL (cs.take off++xs++cs.drop (off+xs.length))=(denL cs).take off++denL xs++(denL cs).drop (off+(denL xs).length):=by simp [denL_eq]
    have e2:cur.toList=denL cs++cur.toList.drop cs.length:=by
     have:cur.toList.take cs.length=denL cs:=by rw [← denL_length,h5];exact hc4
     rw [← this];exact (List.take_append_drop _ _).symm
    refine ⟨⟨by rw [denL_length,hl2,← denL_length];exact h5,.inr ⟨g,cap,_,hv,hbg,setRow_heap w g _ _ t _ hg,hc1,hc2,?_,?_⟩⟩,h7⟩
    ·simp [denL_length];omega
    ·rw [e1,← hcs,Nat.add_zero,e2]
     exact splice_take _ _ _ _ (by rw [denL_length,denL_length];exact hlen)
   ·rfl
  ·refine (Fr.refl (wrs m) w).then (Fr.setRow w g _) fun i hi=>?_
   subst hi
   exact .inl ⟨_,hmem,hwr,hbn⟩
  ·exact (Fresh.self _ _).set rfl fun c hc=>.inl ⟨_,hmem,hwr,hc⟩
theorem NMap.clear {m:List Blk} {K:AV→List Blk→Prop} {j:Nat} {a:Addr} {cs:List AV} {v:Value} {st e t ty:TypeId} {sz n i:Nat} {z:AV} (hj:m[j]?=some ⟨a,cs,.row v t sz n⟩) (hu:P.underlying st=some (.slice e)) (hz:zeroT P e=some z) (hzl:z.cells.length=sz) (h0:0<sz) (ho:ones z.cells=true)
  (hcs:cs.length=n*sz) (hi:i<n) (hK:setBlkK m j ⟨a,cs.take (i*sz)++repCells z.cells (n - i),.row v t sz n⟩ (K (.tup []))):NMap P (Builtin.clear_ #[st] ty #[cutSl v sz i n]) m K:=by
 have hK:=(setBlkK_spec hK).2
 rw [NMap_iff]
 intro w hm
 have hh:=hm.holds _ (List.mem_of_getElem? hj)
 unfold Blk.holds at hh
 obtain ⟨⟨h5,h6⟩,h7⟩:=hh
 rcases h6 with ⟨hv,h0⟩ | ⟨g,cap,cur,hv,hbg,hg,hc1,hc2,hc3,hc4⟩
 ·exact absurd h0 (by omega)
 dsimp only at h7
 have hones:ones (repCells z.cells (n - i))=true:=by
  have hap:∀ xs ys:List AV,ones xs=true→ones ys=true→ones (xs++ys)=true:=fun xs ys hx hy=>by
   induction xs with
   | nil=>exact hy
   | cons x xs ih=>cases x<;>simp_all [ones]
  generalize n - i=k
  induction k with
  | zero=>rfl
  | succ k ih=>exact hap _ _ ho ih
 have hrl:(repCells z.cells (n - i)).length=(n - i)*sz:=by rw [repCells_length,hzl]
 have hmul:i*sz+(n - i)*sz=n*sz:=by rw [← Nat.add_mul];congr 1;omega
 obtain ⟨w',h1,h2,h3,h4⟩:=row_store (P:=P) hm hj (by omega) (off:=i*sz) (xs:=repCells z.cells (n - i)) (by omega) hones
 have hd:cs.drop (i*sz+(repCells z.cells (n - i)).length)=[]:=by rw [List.drop_eq_nil_iff];omega
 rw [hd,List.append_nil] at h2 h4
 refine ⟨.tup [],_,w',?_,hK,h2,h3,h4⟩
 have hba:a=⟨g,0,none⟩:=by rw [h7,hv];rfl
 have hcut:cutSl v sz i n = .slice (some (a.add (i*sz))) (n - i) (cap - i):=by
  rw [hv,hba]
  unfold cutSl slOf
  dsimp only
  rw [if_neg (by omega)]
  rfl
 rw [hcut]
 obtain ⟨k,hk⟩:∃ k,n - i=k+1:=⟨n - i - 1,by omega⟩
 have hzv:=zeroT_run (P:=P) hz w
 rw [← zeroCells_eq _ _ (by omega)] at h1
 rw [hk] at h1 ⊢
 simp only [Builtin.clear_,List.getElem?_toArray,List.getElem?_cons_zero,Sem.run_bind,run_underlying hu,Result.andThen_ok,hzv,den_cells,h1,Sem.run_pure]
 rfl
end
end Go.Sx
namespace Go.Proofs.YtaolcaggdddkpaaGreat
open Go.Sx
set_option maxRecDepth 20000
set_option maxHeartbeats 4000000
set_option linter.unusedVariables false
namespace Pd
def Out (F:Heap) (t:TypeId) (X:T) (v:AV) (m:List Blk):Prop :=
 Got F t X v m∨∃ G u,F.le G∧Row G u X.l∧v.den=(AV.agg (cs X u)).den∧MemFits m [hpB G]
theorem out_know {f:FuncId} {args:List AV} {F:Heap} {t:TypeId} {m:List Blk} {X:T} (h:NCall Tryz.prog f args m fun v m'=>Out F t X v m') :
  NCall Tryz.prog f args m fun v m'=>Lays F X v m':=by
 refine Go.Sx.NCall.know h fun r m' hq ⟨w,hw⟩=>?_
 rcases hq with ⟨G,u,ps,hle,hmap,hall,hr,hm⟩ | ⟨G,u,hle,hrow,hr,hm⟩
 ·have hok:=((hm w hw).1.row (List.mem_cons_of_mem _ (List.mem_cons_self ..))).1
  have hrow:=rowF_new (F:=G) (sz:=4) (enc:=psV) hok (psC_den ps) (fun x _=>rfl)
  refine ⟨_,_,hr.symm,hm.trans (MemFits.freeze (m:=[])),_,u,hle.trans addF.old,?_,rfl,rfl⟩
  rw [← hmap]
  exact row_of hrow fun p hp=>Row.mono addF.old (hall p hp)
 ·exact ⟨_,_,hr.symm,hm,G,u,hle,hrow,rfl,rfl⟩
theorem fits_mk {k f v:Int} {l:List T} (h:fits (.mk k f v l)=true):(k=3∧(0≤f∧f≤5)∧(0≤v∧v≤top f)∧l.length=0∨(k=1∨k=2)∧f=0∧v=0∧l.length=0∨k=4∧f=0∧v=0∧l.length=1∨(k=5∨k=6)∧f=0∧v=0∧2≤l.length∧l.length≤8)∧∀ x∈l,fits x=true:=by
 rw [fits,Bool.and_eq_true,fitsL_iff] at h
 have h1:=h.1
 unfold shape at h1
 rw [decide_eq_true_eq] at h1
 exact ⟨h1,h.2⟩
theorem size_mk (k f v:Int) (l:List T):size (.mk k f v l)=1+sizeL l:=by rw [size]
end Pd
end Go.Proofs.YtaolcaggdddkpaaGreat
namespace Go.Sx
open Go.RowKit
theorem cut_row {w:World} {v:Value} {t:TypeId} {sz n:Nat} {xs:List Value} (h:w.ownsRow 0 t sz v n xs) {k:Nat} (hk:k≤n) :
  w.ownsRow 0 t sz (cutSl v sz 0 k) k (xs.take (k*sz))∧addrOf (cutSl v sz 0 k)=addrOf v∧(cutSl v sz 0 k).ownBlock=v.ownBlock∧slOf (cutSl v sz 0 k)=cutSl v sz 0 k∧cutSl v sz 0 n=v:=by
 obtain ⟨h5,h6⟩:=h
 have hle:k*sz≤n*sz:=Nat.mul_le_mul_right _ hk
 rcases h6 with ⟨rfl,rfl⟩ | ⟨g,cap,cur,rfl,hbg,hg,hc1,hc2,hc3,hc4⟩
 ·obtain rfl:k=0:=by omega
  exact ⟨⟨by simp,.inl ⟨rfl,rfl⟩⟩,rfl,rfl,rfl,rfl⟩
 ·have e:∀ k,cutSl (.slice (some ⟨g,0,none⟩) n cap) sz 0 k = .slice (some ⟨g,0,none⟩) k cap:=fun k=>by
   unfold cutSl slOf
   dsimp only
   have:(⟨g,0,none⟩:Addr).add 0=⟨g,0,none⟩:=addr_zero g 0
   split
   ·simp
   ·simp [this]
  rw [e,e]
  refine ⟨⟨by rw [List.length_take];omega,.inr ⟨g,cap,cur,rfl,hbg,hg,by omega,hc2,hc3,?_⟩⟩,rfl,rfl,rfl,rfl⟩
  rw [← hc4,List.take_take,Nat.min_eq_left hle]
theorem MemFits.cutRow {F:Heap} {a:Addr} {cs:List AV} {v:Value} {t:TypeId} {sz n k:Nat} {m:List Blk} (hk:k≤n) :
  MemFits (hpB F::⟨a,cs,.row v t sz n⟩::m) (hpB F::⟨addrOf (cutSl v sz 0 k),cs.take (k*sz),.row (cutSl v sz 0 k) t sz k⟩::m):=fun w hm=>by
 have hh:=hm.holds ⟨a,cs,.row v t sz n⟩ (by simp)
 unfold Blk.holds at hh
 obtain ⟨h1,h2⟩:=hh
 obtain ⟨h3,h4,h5,h6,h7⟩:=cut_row h1 hk
 have hbn:(⟨addrOf (cutSl v sz 0 k),cs.take (k*sz),.row (cutSl v sz 0 k) t sz k⟩:Blk).bn=(⟨a,cs,.row v t sz n⟩:Blk).bn:=h5
 have hset:(hpB F::⟨a,cs,.row v t sz n⟩::m).set 1 ⟨addrOf (cutSl v sz 0 k),cs.take (k*sz),.row (cutSl v sz 0 k) t sz k⟩=hpB F::⟨addrOf (cutSl v sz 0 k),cs.take (k*sz),.row (cutSl v sz 0 k) t sz k⟩::m:=rfl
 rw [← hset]
 refine ⟨hm.set (i:=1) (Nat.le_refl _) rfl rfl (fun _ _ _=>rfl) ?_ rfl (.inr (.inl hbn)),fun b hb=>?_,fun b hb=>?_⟩
 ·unfold Blk.holds
  dsimp only
  refine ⟨?_,rfl⟩
  have:denL (cs.take (k*sz))=(denL cs).take (k*sz):=by simp [denL_eq]
  rw [this]
  exact h3
 ·rcases wrs_set hb with h | h
  ·exact h
  ·exact ⟨_,List.mem_cons_of_mem _ (List.mem_cons_self ..),rfl,by show (⟨a,cs,.row v t sz n⟩:Blk).bn=some b;rw [← hbn];exact h⟩
 ·rcases foots_set hb with h | h
  ·exact h
  ·exact ⟨_,List.mem_cons_of_mem _ (List.mem_cons_self ..),by show (⟨a,cs,.row v t sz n⟩:Blk).bn=some b;rw [← hbn];exact h⟩
end Go.Sx
namespace Go.Proofs.YtaolcaggdddkpaaGreat
open Go.Sx
set_option maxRecDepth 20000
set_option linter.unusedSimpArgs false
set_option linter.unusedVariables false
set_option maxHeartbeats 4000000
namespace Pd
theorem psC_cons (p:T × Value) (ps:List (T × Value)):psC (p::ps)=cs p.1 p.2++psC ps:=rfl
theorem psC_append (a b:List (T × Value)):psC (a++b)=psC a++psC b:=by unfold psC;rw [List.flatMap_append]
theorem psC_split (l:List (T × Value)) (i:Nat):(psC l).take (i*4)=psC (l.take i)∧(psC l).drop (i*4)=psC (l.drop i):=by
 induction l generalizing i with
 | nil=>simp [psC]
 | cons x l ih =>
  cases i with
  | zero=>simp [psC]
  | succ i =>
   rw [psC_cons]
   unfold cs
   rw [show (i+1)*4=i*4+1+1+1+1 by omega]
   simp only [List.cons_append,List.nil_append,List.take_succ_cons,List.drop_succ_cons,(ih i).1,(ih i).2]
   exact ⟨rfl,trivial⟩
theorem psC_get {l:List (T × Value)} {i:Nat} {p:T × Value} (h:l[i]?=some p):i*4+4≤(psC l).length∧((psC l).drop (i*4)).take 4=[.int .i64 p.1.k,.int .i64 p.1.f,.int .i64 p.1.v,.hs p.2 p.1.l.length]:=by
 obtain ⟨hi,rfl⟩:=List.getElem?_eq_some_iff.1 h
 refine ⟨by rw [psC_len];omega,?_⟩
 rw [(psC_split l i).2,List.drop_eq_getElem_cons hi,psC_cons]
 rfl
theorem psC_put {l:List (T × Value)} {i:Nat} {p:T × Value} (h:i<l.length):(psC l).take (i*4)++[.int .i64 p.1.k,.int .i64 p.1.f,.int .i64 p.1.v,.hs p.2 p.1.l.length]++(psC l).drop (i*4+4)=psC (l.set i p):=by
 rw [show i*4+4=(i+1)*4 by omega,(psC_split l i).1,(psC_split l (i+1)).2,List.set_eq_take_append_cons_drop,if_pos h,psC_append,psC_cons,← List.append_assoc]
 rfl
theorem cellsK_ps {l:List (T × Value)} {i:Nat} {k f v:Int} {u:Value} {r:List T} {K:List AV→Prop} (h:l[i]?=some (.mk k f v r,u)) (hK:K [.int .i64 k,.int .i64 f,.int .i64 v,.hs u r.length]):cellsK (psC l) (i*4) 4 K :=
 cellsK.of (psC_get h).1 (psC_get h).2 hK
theorem putK_ps {l:List (T × Value)} {i:Nat} {k f v:Int} {u:Value} {n:Nat} {r:List T} {K:List AV→Prop} (h:i<l.length) (hr:r.length=n) (hK:K (psC (l.set i (.mk k f v r,u)))):putK (psC l) (i*4) [.int .i64 k,.int .i64 f,.int .i64 v,.hs u n] K:=by
 subst hr
 exact putK.of (by rw [psC_len];simp;omega) (by rw [← psC_put (p:=(.mk k f v r,u)) h] at hK;exact hK)
def kp (d:Int) (ps:List (T × Value)):List (T × Value):=ps.filter fun p=>!decide (p.1.k=d)
end Pd
section
variable (F:Heap)
theorem fold1_h (x:Pd.T) (A:Value) (d:Int) (b:Addr) (h:F.c (b.add 0) (.int .i64 d)):NCall Tryz.prog 116 [.agg (Pd.cs x A),.hp b 0] [hpB F] fun r m=>r = .bool (decide (x.k=d))∧m=[hpB F]:=by
 refine NCall.fits (K:=fun r m=>r = .bool (decide (x.k=d))∧MemFits m [hpB F]) ?_ fun r m' h=>⟨r,_,rfl,h.2,h.1,rfl⟩
 obtain ⟨k,f,v,l⟩:=x
 rw [pd_cs]
 simp only [Pd.T.k]
 refine ncall_of Tryz.func116 rfl (by decide) ?_
 (repeat' (first|(with_reducible first|(refine hK _ _ ?_;clear hK K)|(refine hK _ ?_;clear hK K))|((with_reducible refine z25 ?_);intro K hK;(conv=>whnf))|(with_reducible refine z0 ?_)|((first|(with_reducible refine NN.a5 ?_)|((with_reducible refine NH.mk ?s ?_);case s=>(and_intros<;>with_reducible rfl))|(with_reducible refine NLd.of (by with_reducible assumption) ?_))<;>(conv=>whnf))|(with_reducible first|refine z3 ?_|refine z4 ?_|refine z8 ?_|refine z1 ?_|refine z2 ?_)|((with_reducible refine gR ?_);(refine z31 rfl ?_;intro K hK;(conv=>whnf)))|((with_reducible refine gF ?_);(refine z33 rfl ?_;intro K hK;(conv=>whnf)))|((intro _;skip)<;>(conv=>whnf))))
 all_goals exact ⟨rfl,MemFits.pre 1 rfl⟩
theorem fold2_h (x:Pd.T) (A:Value) (d:Int) (b:Addr) (h:F.c (b.add 0) (.int .i64 d)):NCall Tryz.prog 118 [.agg (Pd.cs x A),.hp b 0] [hpB F] fun r m=>r = .bool (decide (x.k=d))∧m=[hpB F]:=by
 refine NCall.fits (K:=fun r m=>r = .bool (decide (x.k=d))∧MemFits m [hpB F]) ?_ fun r m' h=>⟨r,_,rfl,h.2,h.1,rfl⟩
 obtain ⟨k,f,v,l⟩:=x
 rw [pd_cs]
 simp only [Pd.T.k]
 refine ncall_of Tryz.func118 rfl (by decide) ?_
 (repeat' (first|(with_reducible first|(refine hK _ _ ?_;clear hK K)|(refine hK _ ?_;clear hK K))|((with_reducible refine z25 ?_);intro K hK;(conv=>whnf))|(with_reducible refine z0 ?_)|((first|(with_reducible refine NN.a5 ?_)|((with_reducible refine NH.mk ?s ?_);case s=>(and_intros<;>with_reducible rfl))|(with_reducible refine NLd.of (by with_reducible assumption) ?_))<;>(conv=>whnf))|(with_reducible first|refine z3 ?_|refine z4 ?_|refine z8 ?_|refine z1 ?_|refine z2 ?_)|((with_reducible refine gR ?_);(refine z31 rfl ?_;intro K hK;(conv=>whnf)))|((with_reducible refine gF ?_);(refine z33 rfl ?_;intro K hK;(conv=>whnf)))|((intro _;skip)<;>(conv=>whnf))))
 all_goals exact ⟨rfl,MemFits.pre 1 rfl⟩
theorem index26_d (q:Pd.T→Bool) (v:Value) (l:List Pd.T) (hv:Pd.Row F v l) (hn:l.length≤4611686018427387904) (g:FuncId) (first captured:List AV)
  (hg:∀ x∈l,∀ A,Pd.Row F A x.l→NCall Tryz.prog g (first++[.agg (Pd.cs x A)]++captured) [hpB F] fun r m=>r = .bool (q x)∧m=[hpB F]) :
  NCall Tryz.prog 144 [.hs v l.length,.fn g first captured] [hpB F] fun r m=>((r = .int .i64 (-1)∧∀ x∈l,q x=false)∨∃ j:Nat,r = .int .i64 j∧j<l.length∧(∀ x,l[j]?=some x→q x=true)∧∀ x∈l.take j,q x=false)∧m=[hpB F]:=by
 have hok:=hv.ok
 refine ncall_of Tryz.func144 rfl (by decide) ?_
 (repeat' (first|(with_reducible first|(refine hK _ _ ?_;clear hK K)|(refine hK _ ?_;clear hK K))|((with_reducible refine z25 ?_);intro K hK;(conv=>whnf))|(with_reducible refine z0 ?_)|(((with_reducible refine NH.mk ?s ?_);case s=>(and_intros<;>omega))<;>(conv=>whnf))|(with_reducible first|refine z3 ?_|refine z4 ?_|refine z5 ?_|refine z1 ?_|refine z2 ?_)|((with_reducible refine gF ?_);(refine z33 rfl ?_;intro K hK;(conv=>whnf)))))
 refine st_auto (α:=Nat) (fun k=>k≤l.length∧∀ x∈l.take k,q x=false) (fun k=>[.keep,.keep,.keep,.keep,.drop,.drop,.keep,.keep,.set (.int .i64 k),.drop,.drop,.drop,.drop,.drop,.drop,.drop,.drop,.drop,.drop]) (fun _=>[]) (fun k=>l.length - k) 0 ⟨Nat.zero_le _,fun x hx=>by simp at hx⟩ ?_ (MemFits.eq rfl) ?_
 ·repeat (first|exact FitsSl.nil|refine FitsSl.any ?_|refine FitsSl.cons (Fit1.int (by first | rfl | omega)) ?_|refine FitsSl.cons (Fit1.same (by intro h;cases h) (by with_reducible rfl)) ?_)
 (intro k ⟨hk,hgone⟩;intro K hK;(conv=>whnf);refine hK _ _ ?_;clear hK K)
 by_cases hlt:k<l.length
 ·have hx:l[k]?=some l[k]:=List.getElem?_eq_getElem hlt
  obtain ⟨A,cap,hA,c0,c1,c2,c3⟩:=hv.get hx
  have hmem:=List.mem_of_getElem? hx
  have hnx:l.take (k+1)=l.take k++[l[k]]:=by rw [List.take_add_one,hx];rfl
  have c:=hg _ hmem _ hA
  generalize l[k]=x at *
  simp only [Pd.cs] at c
  cases hq:q x with
  | false =>
   rw [hq] at c
   (repeat' (first|(with_reducible first|(refine hK _ _ ?_;clear hK K)|(refine hA ?_;clear hA hB A B)|(refine hB ?_;clear hA hB A B))|((with_reducible refine z25 ?_);intro K hK;(conv=>whnf))|(with_reducible refine z0 ?_)|((first|((with_reducible refine NV.i64 ?s ?_);case s=>omega)|((with_reducible refine NIf.decY ?s ?_);case s=>omega)|((with_reducible refine NIf.no ?s ?_);case s=>rfl)|(with_reducible first|refine NN.cast ?_|refine NN.keep ?_)|((with_reducible refine NH.mk ?s ?_);case s=>(and_intros<;>omega))|((with_reducible refine NCall.isF g ?_);refine NCall.subE [0] (c) rfl (by decide) rfl rfl ?_)|(with_reducible refine NLd.of (by with_reducible assumption) ?_))<;>(conv=>whnf))|(with_reducible first|refine z3 ?_|refine z4 ?_|refine z5 ?_|refine z6 ?_)|((with_reducible refine z29 ?_);intro A B hA hB;(conv=>whnf))|(with_reducible first|refine z1 ?_|refine z2 ?_|refine z9 ?_)))
   refine st_round (k+1) ⟨hlt,fun y hy=>?_⟩ (by omega) ?_ (MemFits.eq rfl)
   ·rw [hnx] at hy
    rcases List.mem_append.1 hy with hy | hy
    ·exact hgone y hy
    ·rw [List.mem_singleton.1 hy];exact hq
   ·repeat (first|exact FitsSl.nil|refine FitsSl.any ?_|refine FitsSl.cons (Fit1.int (by first | rfl | omega)) ?_|refine FitsSl.cons (Fit1.same (by intro h;cases h) (by with_reducible rfl)) ?_)
  | true =>
   rw [hq] at c
   (repeat' (first|(with_reducible first|(refine hK _ _ ?_;clear hK K)|(refine hA ?_;clear hA hB A B)|(refine hK _ ?_;clear hK K))|((with_reducible refine z25 ?_);intro K hK;(conv=>whnf))|(with_reducible refine z0 ?_)|((first|((with_reducible refine NIf.decY ?s ?_);case s=>omega)|((with_reducible refine NIf.yes ?s ?_);case s=>rfl)|(with_reducible first|refine NN.cast ?_|refine NN.keep ?_)|((with_reducible refine NH.mk ?s ?_);case s=>(and_intros<;>omega))|((with_reducible refine NCall.isF g ?_);refine NCall.subE [0] (c) rfl (by decide) rfl rfl ?_)|(with_reducible refine NLd.of (by with_reducible assumption) ?_))<;>(conv=>whnf))|(with_reducible first|refine z3 ?_|refine z4 ?_|refine z5 ?_|refine z6 ?_|refine z8 ?_)|((with_reducible refine z29 ?_);intro A B hA hB;(conv=>whnf))|(with_reducible first|refine z1 ?_|refine z2 ?_|refine z12 ?_|refine z13 ?_|refine z20 ?_)|((with_reducible refine gR ?_);(refine z31 rfl ?_;intro K hK;(conv=>whnf)))))
   exact ⟨.inr ⟨k,rfl,hlt,fun y hy=>by rw [hx] at hy;injection hy with hy;rw [← hy];exact hq,hgone⟩,rfl⟩
 ·have hkl:k=l.length:=by omega
  subst hkl
  rw [List.take_length] at hgone
  (repeat' (first|(with_reducible first|(refine hK _ _ ?_;clear hK K)|(refine hB ?_;clear hA hB A B)|(refine hK _ ?_;clear hK K))|((with_reducible refine z25 ?_);intro K hK;(conv=>whnf))|(with_reducible refine z0 ?_)|(((with_reducible refine NIf.decN ?s ?_);case s=>omega)<;>(conv=>whnf))|(with_reducible first|refine z3 ?_|refine z4 ?_|refine z7 ?_|refine z8 ?_)|((with_reducible refine z29 ?_);intro A B hA hB;(conv=>whnf))|(with_reducible first|refine z1 ?_|refine z2 ?_|refine z10 ?_|refine z11 ?_|refine z19 ?_)|((with_reducible refine gR ?_);(refine z31 rfl ?_;intro K hK;(conv=>whnf)))))
  exact ⟨.inl ⟨rfl,hgone⟩,rfl⟩
end
theorem read_own {F:Heap} {f:FuncId} {w:Value} {ps:List (Pd.T × Value)} {t ti:TypeId} {b:Addr} {d:Int} {g:FuncId} {args0:List AV} {m0:List Blk} {K0:AV→List Blk→Prop} {K:AV→Prop} (h0:NCall Tryz.prog f args0 m0 K0)
  (hall:∀ p∈ps,Pd.Row F p.2 p.1.l)
  (h:∀ G,F.le G→Pd.Row G w (ps.map (·.1))→G.c (b.add 0) (.int .i64 d)→NCall Tryz.prog f [.hs w (ps.map (·.1)).length,.fn g [] [.hp b 0]] [hpB G] fun r m=>K r∧m=[hpB G]) :
  NCall Tryz.prog f [.sl 1 w ps.length,.fn g [] [.ptr 2 b 0]] [hpB F,⟨addrOf w,Pd.psC ps,.row w t 4 ps.length⟩,⟨b,[.int .i64 d],.var ti⟩] fun r m=>K r∧m=[hpB F,⟨addrOf w,Pd.psC ps,.row w t 4 ps.length⟩,⟨b,[.int .i64 d],.var ti⟩]:=by
 refine NCall.when h0 fun ⟨W,hw⟩=>?_
 have hok:=(hw.row (List.mem_cons_of_mem _ (List.mem_cons_self ..))).1
 have hrow:=rowF_new (F:=F) (sz:=4) (enc:=Pd.psV) hok (Pd.psC_den ps) (fun x _=>rfl)
 have hr2:=Pd.row_of hrow fun p hp=>Pd.Row.mono addF.old (hall p hp)
 have hnew:=addF.new (F:=addF F (addrOf w) (denL (Pd.psC ps))) (a:=b) (vs:=denL [.int .i64 d])
 obtain ⟨c0,_⟩:=hnew
 refine NCall.keep (h _ (addF.old.trans addF.old) (Pd.Row.mono addF.old hr2) c0) ?_ ((MemFits.freeze (m:=[⟨b,[.int .i64 d],.var ti⟩])).trans (MemFits.freezeVar (m:=[]))) rfl fun r mL' h=>⟨r,rfl,h.1,rfl⟩
 rw [List.length_map]
 rfl
end Go.Proofs.YtaolcaggdddkpaaGreat
