/- A part of the proof. -/
import Derived.Test.YtmehinfgdcmmjaaGreatDoorTJ16
import Derived.Test.YtmehinfgdcmmjaaGreatDoorTPo8
import Derived.Test.YtmehinfgdcmmjaaGreatDoorTPd7
import Derived.Test.YtmehinfgdcmmjaaGreatDoorTJ3
import Derived.Test.YtmehinfgdcmmjaaGreatDoorTPs10
import Derived.Test.YtmehinfgdcmmjaaGreatDoorTJ13
import Derived.Test.YtmehinfgdcmmjaaGreatDoorTJ4
import Derived.Test.YtmehinfgdcmmjaaGreatDoorTJ8
namespace Go.Proofs.YtmehinfgdcmmjaaGreatDoor
open Go.Sx
set_option maxRecDepth 20000
set_option maxHeartbeats 4000000
set_option linter.unusedVariables false
def Tr.cellsAt (q0 q1 q2 q3 q4 x1 x2 x3 x4:Int):Nat→List AV
 | 0=>[.int .i64 q0,.int .i64 x1,.int .i64 x2,.int .i64 x3,.int .i64 x4]
 | 1=>[.int .i64 q0,.int .i64 q1,.int .i64 x2,.int .i64 x3,.int .i64 x4]
 | 2=>[.int .i64 q0,.int .i64 q1,.int .i64 q2,.int .i64 x3,.int .i64 x4]
 | 3=>[.int .i64 q0,.int .i64 q1,.int .i64 q2,.int .i64 q3,.int .i64 x4]
 | _=>[.int .i64 q0,.int .i64 q1,.int .i64 q2,.int .i64 q3,.int .i64 q4]
set_option linter.unusedSimpArgs false
theorem eD (F:Heap) (x:Po.T) (pu u:Value) (f:Int) (hf : -9223372036854775808≤f∧f≤9223372036854775807) (hs:Po.tot x≤4611686018427387904) (hx:Po.At F x pu u) :
  Qz Tryz.prog 22 [.agg (Po.cs x pu u),.int .i64 f] [hpB F] fun r m=>Srt.Lays F (Po.asked f x ((Pd.top f).toNat+1)) r m:=by
 refine Srt.know (t:=3) ?_
 have hok:=hx.l.ok
 have hpok:=hx.p.ok
 have ctop:=reftop26_c f
 have ht0:=Pd.top_nonneg f
 have ht1:Pd.top f≤255:=by unfold Pd.top;split<;>first | omega | (split<;>first | omega | (split<;>omega))
 have ca:∀ i:Nat,Qz Tryz.prog 48 [.agg (Po.cs x pu u),.int .i64 f,.int .i64 i] [hpB F] fun r m=>r = .bool (decide ((i:Int)∈Po.vals f x))∧m=[hpB F]:=fun i=>jA F f i hf _ x pu u (Nat.le_refl _) hs hx
 have hnx:=Po.asked_next f x
 have hln:=Po.asked_len f x
 have h0:Po.asked f x 0=[]:=rfl
 generalize Pd.top f=T at *
 generalize hE:Po.vals f x=E at *
 generalize hW:Po.asked f x=W at *
 clear hs hx hE hW
 obtain ⟨k,⟨pk,pf,pv,pl⟩,a,v,l⟩:=x
 simp only [aY,Po.T.l,Po.T.p,Pd.T.k,Pd.T.f,Pd.T.v,Pd.T.l] at *
 refine aB Tryz.func22 rfl (by decide) ?_
 repeat' first|(refine sxZ ?_;try clear hK K)|refine sxW ?_ ?_<;>intro _|(intro K hK _;conv=>whnf)
 refine aE (α:=Value × Nat) (fun (w,i)=>i≤T.toNat+1) (fun (w,i)=>[.k,.k,.k,.k,.k,.set (.sl 2 w (W i).length),.set (.int .i64 i),.d,.d,.d,.d,.d,.d,.d,.d,.d,.d,.d,.d,.d,.d,.k]) (fun (w,i)=>[.k,.k,.set ⟨addrOf w,Srt.av (W i),.row w 3 1 (W i).length⟩]) (fun (w,i)=>T.toNat+1 - i) (.slice none 0 0,0) (Nat.zero_le _) ?_ ((Qw.nilRow _ 3 1).trans (Qw.congr (by simp only [autoM,h0];rfl))) ?_
 ·dsimp only
  rw [h0]
  exact aD
 (intro ⟨w,i⟩ hi;intro K hK;(conv=>whnf);refine hK _ _ ?_;clear hK K)
 dsimp only
 have hi:i≤T.toNat+1:=hi
 have hl:=hln i
 by_cases hlt:(i:Int)≤T
 ·have c:=ca i
  have hn:=hnx i
  by_cases hE:(i:Int)∈E
  ·rw [decide_eq_true hE] at c
   rw [if_pos hE] at hn
   have hav:=Srt.av_append (W i) [(i:Int)]
   have hal:=Srt.av_len (W i)
   rw [← hn] at hav
   have hlen:(W (i+1)).length=(W i).length+1:=by rw [hn,List.length_append];rfl
   generalize Srt.av (W i)=B at *
   clear ca hnx hln
   repeat' first|(intro K hK;(with_reducible refine gC ?_);first|refine cP ctop ?_|refine cS [0] c ?_)|(refine sxZ ?_;try clear hK K)|refine sxW ?_ ?_<;>intro _|(intro K hK _;conv=>whnf)
   all_goals first | (exfalso;omega) | skip
   all_goals
    rename_i v9
    refine aC (v9,i+1) (by show i+1≤T.toNat+1;omega) (by show T.toNat+1 - (i+1)<T.toNat+1 - i;omega) ?_ (Qw.pre 3 ?_)
    ·dsimp only
     rw [hlen]
     exact aD
    ·simp only [autoM,List.take,hlen,hav]
     rfl
  ·rw [decide_eq_false hE] at c
   rw [if_neg hE,List.append_nil] at hn
   rw [← hn]
   clear ca hnx hln
   repeat' first|(intro K hK;(with_reducible refine gC ?_);first|refine cP ctop ?_|refine cS [0] c ?_)|(refine sxZ ?_;try clear hK K)|refine sxW ?_ ?_<;>intro _|(intro K hK _;conv=>whnf)
   all_goals first | (exfalso;omega) | skip
   all_goals
    refine aC (w,i+1) (by show i+1≤T.toNat+1;omega) (by show T.toNat+1 - (i+1)<T.toNat+1 - i;omega) ?_ (Qw.pre 3 rfl)
    dsimp only
    exact aD
 ·have hE:i=T.toNat+1:=by omega
  subst hE
  clear ca hnx
  repeat' first|(intro K hK;(with_reducible refine gC ?_);refine cP ctop ?_)|(refine sxZ ?_;try clear hK K)|refine sxW ?_ ?_<;>intro _|(intro K hK _;conv=>whnf)
  all_goals first | (exfalso;omega) | skip
  all_goals exact ⟨w,rfl,Qw.pick [0,2] (by decide) rfl⟩
section
variable (F:Heap)
theorem ir (p:Pd.T) (u:Value) (hs:Pd.size p≤4611686018427387904) (hu:Pd.Row F u p.l):Qz Tryz.prog 43 [.agg (Pd.cs p u)] [hpB F] fun r m=>r = .bool (Pd.right p)∧m=[hpB F]:=by
 refine Qz.fits (K:=fun r m=>r = .bool (Pd.right p)∧Qw m [hpB F]) ?_ fun r m' h=>⟨r,_,rfl,h.2,h.1,rfl⟩
 have c1:=refsize26_c F _ p u (Nat.le_refl _) hs hu
 have c2:=refdeep26_c F _ p u (Nat.le_refl _) hs hu
 have c3:=kQ F _ p u (Nat.le_refl _) hs hu
 have hd:=Pd.deep_size p
 unfold Pd.right
 generalize Pd.fits p=fb at *
 generalize Pd.size p=sz at *
 generalize Pd.deep p=dp at *
 simp only [Pd.cs] at *
 refine aB Tryz.func43 rfl (by decide) ?_
 cases fb
 ·repeat' first|(intro K hK;(with_reducible refine gC ?_);refine cS [0] c3 ?_)|(refine sxZ ?_;try clear hK K)|refine sxW ?_ ?_<;>intro _|(intro K hK _;conv=>whnf)
  all_goals exact ⟨rfl,Qw.pre 1 rfl⟩
 ·repeat' first|(intro K hK;(with_reducible refine gC ?_);first|refine cS [0] c1 ?_|refine cS [0] c2 ?_|refine cS [0] c3 ?_)|(refine sxZ ?_;try clear hK K)|refine sxW ?_ ?_<;>intro _|(intro K hK _;conv=>whnf)
  all_goals
   refine ⟨?_,Qw.pre 1 rfl⟩
   congr 1
   first
    | (rw [show decide (sz≤64)=true from decide_eq_true (by omega),show decide (dp≤8)=true from decide_eq_true (by omega)];simp;done)
    | (rw [show decide (sz≤64)=false from decide_eq_false (by omega)];simp;done)
    | (rw [show decide (sz≤64)=true from decide_eq_true (by omega)];simp;omega)
    | (simp;omega)
end
end Go.Proofs.YtmehinfgdcmmjaaGreatDoor
namespace Go.Sx
set_option linter.unusedVariables false
open Go.RowKit
section
variable {P:Program}
theorem nF {g:FuncId} {fn:Func} {id:Nat} {t7 t3:Tmp} {rest:Code} {ty1 ty2:TypeId} {p1 p2:String} {e1 e2:Array Edge} (hf:P.funcs[g]?=some fn)
  (hc:fn.body=some (.seq (.region id #[⟨some t7,.call { callee:=.builtin .recover,args:=#[],argTypes:=#[] },ty1,p1,e1,none⟩,⟨some t3,.assign (.tmp t7),ty2,p2,e2,none⟩] false) rest))
  (hn : (fn.name == "runtime.NumGoroutine") = false) (hres : fn.results.toList = []) {args : List AV} {m : List Blk} {u u' : FrameMode} {rv : AV} {K : FrameMode → List Blk → Prop}
  (hrec:∀ (c₀:Frame) (cs:List Frame),c₀.mode=u→(recoverD (c₀::cs)=some (rv.den,{ c₀ with mode:=u' }::cs))∨(recoverD (c₀::cs)=none∧rv.den = .nilIface∧u'=u))
  (h:argK args fn.ntmps fun sl=>dstK sl (some t7) rv fun sl1=>evK sl1 (.tmp t7) fun x=>dstK sl1 (some t3) x fun sl2=>codeX P rest sl2 m fun e _ m'=>(e = .normal∨e = .ret)∧K u' m'):bF P g args m u K:=by
 unfold bF
 refine ⟨enters_of hf (by rw [hc];rfl) hn,fun w hm=>?_⟩
 obtain ⟨hlen,h⟩:=dH h
 refine callsD_of_wpS hf hc fun c₀ cs hu=>?_
 have hs0:Qy (args++List.replicate (fn.ntmps - args.length) .any) ({ tmps:=(denL args).toArray++Array.replicate (fn.ntmps - (denL args).toArray.size) undef,defers:=[] }:Act).tmps:=dz hlen
 obtain ⟨sl1,h1,h2⟩:=aO h hs0
 obtain ⟨x,h3,h4⟩:=aG h2 h1
 obtain ⟨sl2,h5,h6⟩:=aO h3 h2
 generalize hA:({ tmps:=(denL args).toArray++Array.replicate (fn.ntmps - (denL args).toArray.size) undef,defers:=[] }:Act)=A at *
 have hAd:A.defers=[]:=by rw [← hA]
 have hrest:∀ cs',cs'={ c₀ with mode:=u' }::cs→rest.wpS P (bodyPostS P fn c₀ cs fun e u' w'=>∃ m',K u' m'∧e = .returned (.tuple #[])∧Qx m' w'∧Fr (wrs m) w w'∧Fresh (own m) w m') ((A.put (some t7) rv.den).put (some t3) x.den) cs' w:=fun cs' hcs=>by
  subst hcs
  have hsim:Sim w (own m) sl2 m ((A.put (some t7) rv.den).put (some t3) x.den) w:=⟨h6,by rw [bg,bg,hAd];rfl,hm,Fr.refl _ w,fun b hb=>.inl hb,fun b hb=>.inl hb⟩
  refine wpS_of_wp (wp_mono (dm h5 hsim) fun e a w' hq=>?_)
  obtain ⟨sl',m',g1,g2⟩:=hq
  obtain ⟨he,g3⟩:=g1
  have hk:resK P m' sl' fn.results.toList fun xs=>xs=[]:=by
   rw [hres]
   exact rfl
  obtain ⟨xs,rfl,g4⟩:=am g2.slots hk
  rcases he with rfl | rfl
  iterate 2
   ·exact ⟨g2.defers,u',rfl,_,g4 w' g2.mem,m',g3,rfl,g2.mem,g2.fr,g2.fresh⟩
 apply wpS_seq
 apply wpS_region
 show wpOpsS P _ _ [0,1] A (c₀::cs) w
 have er:(execOp A.eval ⟨some t7,.call { callee:=.builtin .recover,args:=#[],argTypes:=#[] },ty1,p1,e1,none⟩).run P w = .ok .recover w:=by
  simp [execOp,resolve,invoke,builtin]
 have ea:∀ v,(execOp (A.put (some t7) v).eval ⟨some t3,.assign (.tmp t7),ty2,p2,e2,none⟩).run P w = .ok (.value ((A.put (some t7) v).eval (.tmp t7))) w:=fun v=>rfl
 have w1:Region.wanted (⟨some t7,.call { callee:=.builtin .recover,args:=#[],argTypes:=#[] },ty1,p1,e1,none⟩:Oper)=fun _=>true:=by
  funext y
  simp [Region.wanted]
 have w2:Region.wanted (⟨some t3,.assign (.tmp t7),ty2,p2,e2,none⟩:Oper)=fun _=>true:=by
  funext y
  simp [Region.wanted]
 unfold wpOpsS
 simp only [List.getElem?_toArray,List.getElem?_cons_zero,w1,if_true,er]
 rcases hrec c₀ cs hu with hr | ⟨hr,hv,rfl⟩
 ·rw [hr]
  dsimp only
  unfold wpOpsS
  simp only [List.getElem?_toArray,List.getElem?_cons_succ,List.getElem?_cons_zero,w2,if_true,ea,h4]
  rw [Oper.upon_value]
  exact hrest _ rfl
 ·rw [hr]
  dsimp only
  unfold wpOpsS
  rw [← hv]
  simp only [List.getElem?_toArray,List.getElem?_cons_succ,List.getElem?_cons_zero,w2,if_true,ea,h4]
  rw [Oper.upon_value]
  refine hrest _ ?_
  rw [← hu]
theorem iG {g:FuncId} {fn:Func} {id:Nat} {t7 t3:Tmp} {rest:Code} {ty1 ty2:TypeId} {p1 p2:String} {e1 e2:Array Edge} (hf:P.funcs[g]?=some fn)
  (hc:fn.body=some (.seq (.region id #[⟨some t7,.call { callee:=.builtin .recover,args:=#[],argTypes:=#[] },ty1,p1,e1,none⟩,⟨some t3,.assign (.tmp t7),ty2,p2,e2,none⟩] false) rest))
  (hn : (fn.name == "runtime.NumGoroutine") = false) (hres : fn.results.toList = []) {args : List AV} {m : List Blk} {u u' : FrameMode} {rv : AV} {K : FrameMode → List Blk → Prop}
  (hrec:∀ (c₀:Frame) (cs:List Frame),c₀.mode=u→(recoverD (c₀::cs)=some (rv.den,{ c₀ with mode:=u' }::cs))∨(recoverD (c₀::cs)=none∧rv.den = .nilIface∧u'=u))
  (h:∀ Q:List AV→Prop,(∀ sl,codeX P rest sl m (fun e _ m'=>(e = .normal∨e = .ret)∧K u' m')→Q sl)→argK args fn.ntmps fun sl=>dstK sl (some t7) rv fun sl1=>evK sl1 (.tmp t7) fun x=>dstK sl1 (some t3) x Q):bF P g args m u K:=by
 exact nF hf hc hn hres hrec (h _ fun _ h=>h)
theorem bF.subw {g:FuncId} {args:List AV} {m:List Blk} {u:FrameMode} {K KL:FrameMode→List Blk→Prop} (idx:List Nat) (args':List AV) (mL:List Blk) (h:bF P g args' mL u KL) (hargs:denL args'=denL args)
  (hn:idx.Nodup) (hmL:idx.map (fun i=>m[i]?)=mL.map some)
  (hK:∀ u' bs,KL u' bs→idx.length≤bs.length∧db m idx bs (K u')):bF P g args m u K:=by
 obtain ⟨h1,h2⟩:=gw (mL:=mL) idx hn hmL
 unfold bF at h ⊢
 refine ⟨h.1,fun w hm=>?_⟩
 have h3:=(h.2 w (h1 w hm).1).mono (R':=fun e u' w'=>∃ m',K u' m'∧e = .returned (.tuple #[])∧Qx m' w'∧Fr (wrs m) w w'∧Fresh (own m) w m') fun e u' w' hq=>by
  obtain ⟨bs,g1,rfl,g3,g4,g5⟩:=hq
  obtain ⟨g6,g7⟩:=hK u' bs g1
  obtain ⟨g8,g9⟩:=h2 bs g6 w w' hm g3 g4 g5
  exact ⟨_,bz _ _ _ g7,rfl,g8,⟨g4.os,g4.tape,g4.output,g4.size,fun k hk hs=>g4.block k hk (fun ht=>hs ((h1 w hm).2 k ht))⟩,g9⟩
 rw [hargs] at h3
 exact h3
theorem de {f : FuncId} {fn : Func} {c : Code} (hf : P.funcs[f]? = some fn) (hc : fn.body = some c) (hn : (fn.name == "runtime.NumGoroutine") = false) {args : List AV} {m : List Blk} {K : AV → List Blk → Prop}
  (h:∀ Q:List AV→Prop,(∀ sl,NY P c [] sl m (fun ds e sl m'=>match e with
   | .normal=>NEnd P fn ds .returning sl m' K
   | .ret=>NEnd P fn ds .returning sl m' K
   | .panic ch=>NEnd P fn ds (.panicking ch) sl m' K
   | _=>False)→Q sl)→argK args fn.ntmps Q):Qz P f args m K:=j8 hf hc hn (h _ fun _ h=>h)
end
end Go.Sx
namespace Go.Proofs.YtmehinfgdcmmjaaGreatDoor
open Go.Sx
set_option maxRecDepth 20000
set_option linter.unusedSimpArgs false
set_option linter.unusedVariables false
set_option maxHeartbeats 4000000
theorem kg (b4 b5 b6:Nat) (x0 x1 x2 x3 x4 x5 x6 x7:AV) (a e:Int) :
  bF Tryz.prog 126 [.ptr 0 ⟨b4,0,none⟩ 0,.ptr 1 ⟨b5,0,none⟩ 0,.ptr 2 ⟨b6,0,none⟩ 0] [⟨⟨b4,0,none⟩,[x0,x1,x2,x3,x4,x5,x6,x7],.var 42⟩,⟨⟨b5,0,none⟩,[.int .i64 a],.var 3⟩,⟨⟨b6,0,none⟩,[.int .i64 e],.var 34⟩] .returning
   fun u' m'=>settle u' = .returning∧m'=[⟨⟨b4,0,none⟩,[x0,x1,x2,x3,x4,x5,x6,x7],.var 42⟩,⟨⟨b5,0,none⟩,[.int .i64 a],.var 3⟩,⟨⟨b6,0,none⟩,[.int .i64 e],.var 34⟩]:=by
 refine iG (u':=.returning) (rv:=.raw .nilIface) Tryz.func126 rfl (by decide) rfl (fun c₀ cs hu=>.inr ⟨by simp [recoverD,hu],rfl,rfl⟩) (fun K hK=>?_)
 conv=>whnf
 refine hK _ ?_
 clear hK K
 repeat' first|(refine ah ?_;(try clear hP hK Kp K);try clear hK K)|refine sxW ?_ ?_<;>intro _|(intro K Kp hK hP _;conv=>whnf)|(intro K hK _;conv=>whnf)
 all_goals exact ⟨.inr rfl,rfl,rfl⟩
theorem ki (b4 b5 b6:Nat) (x0 x1 x2 x3 x4 x5 x6 x7:AV) (a e at_:Int) :
  bF Tryz.prog 126 [.ptr 0 ⟨b4,0,none⟩ 0,.ptr 1 ⟨b5,0,none⟩ 0,.ptr 2 ⟨b6,0,none⟩ 0] [⟨⟨b4,0,none⟩,[x0,x1,x2,x3,x4,x5,x6,x7],.var 42⟩,⟨⟨b5,0,none⟩,[.int .i64 a],.var 3⟩,⟨⟨b6,0,none⟩,[.int .i64 e],.var 34⟩] (.panicking (Ps.wrong at_))
   fun u' m'=>settle u' = .returning∧∃ m2,m'=[⟨⟨b4,0,none⟩,[.int .i64 0,.int .i64 0,.int .i64 0,.int .i64 0,.raw (.slice none 0 0),.int .i64 0,.int .i64 0,.raw (.slice none 0 0)],.var 42⟩,⟨⟨b5,0,none⟩,[.int .i64 at_],.var 3⟩,⟨⟨b6,0,none⟩,[.int .i64 10],.var 34⟩]++m2:=by
 refine iG (u':=.panicking [{ v:=.iface 184 (.int .i64 at_),recovered:=true }]) (rv:=.ifc 184 (.int .i64 at_)) Tryz.func126 rfl (by decide) rfl (fun c₀ cs hu=>.inl (by simp [recoverD,hu,Ps.wrong];rfl)) (fun K hK=>?_)
 conv=>whnf
 refine hK _ ?_
 clear hK K
 repeat' first|(refine ah ?_;(try clear hP hK Kp K);try clear hK K)|refine sxW ?_ ?_<;>intro _|(intro K Kp hK hP _;conv=>whnf)|(intro K hK _;conv=>whnf)
 all_goals exact ⟨.inl rfl,rfl,_,rfl⟩
theorem oe (F:Heap) (tx:List UInt8) (hs:tx.length≤4000) (L:List (Lx.B × List UInt8)) (hL:Lx.toks tx=some L) (hl:L.length≤500):Qz Tryz.prog 125 [.str tx] [hpB F] fun r m =>
  ∃ F' v,F.le F'∧m=[hpB F']∧r = .tup [.hs v (Lx.res tx L).length,.int .i64 0,.int .i64 0]∧aI F' 4 (fun x vs=>vs=Lx.tokV x) v (Lx.res tx L) :=
 (rB F tx hs).mono fun r m h=>by
  rcases h with ⟨L',F',v,h1,h2,h3,h4,h5,h6⟩ | ⟨h1,_⟩
  ·rw [hL] at h1
   injection h1 with h1
   subst h1
   exact ⟨F',v,h3,h4,h5,h6⟩
  ·exact (h1 ⟨L,hL,hl⟩).elim
theorem Lx.res_b (tx:List UInt8) (L:List (Lx.B × List UInt8)):(Lx.res tx L).map Lx.b=L.map (·.1)++[⟨4,0,[]⟩]:=by
 unfold Lx.res
 rw [List.map_append,List.map_map]
 congr 1
open Go.Sx Go.RowKit Go.ChangeShapes Go.WideShapes
theorem iY {H:Type}:∀ (l:List Po.T) (es:List (DataW H × List MemPlace)),l.length=es.length→(∀ (i:Nat) (p:Po.T) (e:DataW H × List MemPlace),l[i]?=some p→es[i]?=some e→Po.tot p≤Rows.uptoBulk e.1)→Po.totL l≤Rows.uptoBulkAll (es.map (·.1))
 | [],_,_,_=>by rw [Po.totL];exact Nat.zero_le _
 | p::l,[],h,_=>by simp at h
 | p::l,e::es,h,hi=>by
  have h1:=hi 0 p e rfl rfl
  have h2:=iY l es (by simpa using h) fun i q f hq hf=>hi (i+1) q f (by simpa using hq) (by simpa using hf)
  rw [Po.totL,List.map_cons,Rows.uptoBulkAll]
  omega
mutual
def Po.in64:Po.T→Prop
 | .mk k p f v l=>((-9223372036854775808≤k∧k≤9223372036854775807)∧(-9223372036854775808≤f∧f≤9223372036854775807)∧(-9223372036854775808≤v∧v≤9223372036854775807))∧Pd.in64 p∧Po.in64L l
def Po.in64L:List Po.T→Prop
 | []=>True
 | x::l=>Po.in64 x∧Po.in64L l
end
theorem Po.in64L_iff (l:List Po.T):Po.in64L l↔∀ p∈l,Po.in64 p:=by
 induction l with
 | nil=>simp [Po.in64L]
 | cons p l ih=>simp only [Po.in64L,ih,List.mem_cons,forall_eq_or_imp]
section
variable {H:Type} {enc:TypeId × Value→H} {W:World} {spare:Nat→Bool} {held:Bool}
theorem open27 (t tS:TypeId) (fs:Array Field) (hT:Tryz.prog.underlying t=some (.struct fs)) (hS:Tryz.prog.underlying tS=some (.slice t)) (ti:TypeId) (hI:Tryz.prog.underlying ti=some (.int .i64))
  (tP:TypeId) (hP:∀ (fuel:Nat) (cs:List Value) (x:DataW H × List MemPlace),DataW.trod enc Tryz.prog W 0 spare held fuel tP cs=some x→∃ p:Pd.T,Pd.R (bZ W) p cs∧Pd.in64 p∧Pd.size p≤Rows.uptoBulk x.1)
  (hfs:fs.toList.map (fun f=>(f.type,f.offset))=[(ti,0),(tP,1),(ti,5),(ti,6),(tS,7)]) (hc:Tryz.prog.cellsOf t=8) (hci:Tryz.prog.cellsOf ti=1) (hcp:Tryz.prog.cellsOf tP=4) (hcs:Tryz.prog.cellsOf tS=1) :
  ∀ (N fuel:Nat) (cs:List Value) (x:DataW H × List MemPlace),fuel≤N→DataW.trod enc Tryz.prog W 0 spare held fuel t cs=some x→∃ p:Po.T,Po.R (bZ W) p cs∧Po.in64 p∧Po.tot p≤Rows.uptoBulk x.1
 | 0,fuel,cs,x,hN,hx=>by
  obtain ⟨xs,n,h1,_⟩:=DataW.trod_struct hT hx
  omega
 | N+1,fuel,cs,x,hN,hx=>by
  obtain ⟨xs,n,h1,h2,hlen,hxl,hf⟩:=DataW.trod_struct hT hx
  have hfs4:fs.size=5:=by have:=congrArg List.length hfs;simpa using this
  have hat:∀ i (hi:i<5),∃ f,fs[i]?=some f∧(f.type,f.offset)=[(ti,0),(tP,1),(ti,5),(ti,6),(tS,7)][i]:=fun i hi=>by
   have hi':i<fs.size:=by omega
   refine ⟨fs[i],Array.getElem?_eq_getElem hi',?_⟩
   have:=congrArg (fun l=>l[i]?) hfs
   simp only [List.getElem?_map,Array.getElem?_toList,Array.getElem?_eq_getElem hi',Option.map_some,List.getElem?_eq_getElem (show i<[(ti,0),(tP,1),(ti,5),(ti,6),(tS,7)].length by simpa using hi),Option.some.injEq] at this
   exact this
  match cs,(hlen.trans hc) with
  | [c0,c1,c2,c3,c4,c5,c6,c7],_ =>
   match xs,(hxl.trans hfs4) with
   | [x0,x1,x2,x3,x4],_ =>
    obtain ⟨f0,g0,e0⟩:=hat 0 (by decide)
    obtain ⟨f1,g1,e1⟩:=hat 1 (by decide)
    obtain ⟨f2,g2,e2⟩:=hat 2 (by decide)
    obtain ⟨f3,g3,e3⟩:=hat 3 (by decide)
    obtain ⟨f4,g4,e4⟩:=hat 4 (by decide)
    simp only [List.getElem_cons_zero,List.getElem_cons_succ,Prod.mk.injEq] at e0 e1 e2 e3 e4
    have t0:=hf 0 f0 g0
    have t1:=hf 1 f1 g1
    have t2:=hf 2 f2 g2
    have t3:=hf 3 f3 g3
    have t4:=hf 4 f4 g4
    rw [e0.1,e0.2,hci] at t0
    rw [e1.1,e1.2,hcp] at t1
    rw [e2.1,e2.2,hci] at t2
    rw [e3.1,e3.2,hci] at t3
    rw [e4.1,e4.2,hcs] at t4
    simp only [List.drop_zero,List.take_succ_cons,List.take_zero,List.drop_succ_cons,List.getElem?_cons_zero,List.getElem?_cons_succ] at t0 t1 t2 t3 t4
    obtain ⟨k,ek,_,wk⟩:=DataW.trod_int hI t0
    obtain ⟨q,hq,hqi,hqs⟩:=hP _ _ _ t1
    obtain ⟨a,ea,_,wa⟩:=DataW.trod_int hI t2
    obtain ⟨v,ev,_,wv⟩:=DataW.trod_int hI t3
    cases ek
    cases ea
    cases ev
    obtain ⟨pA,pcap,hprow,hpe⟩:=hq.inv
    cases hpe
    rcases DataW.trod_slice hS t4 with ⟨es,_⟩ | ⟨b,len,cap,elems,rest,n',hn',es,ex3,_,hl,hm,hel,hat',_⟩
    ·cases es
     refine ⟨.mk k q a v [],Po.R.of (x:=.mk k q a v []) (A:=none) (cap:=0) ⟨hprow,aI.nil⟩,by simp only [Po.in64,Po.in64L,and_true];exact ⟨⟨dW wk,dW wa,dW wv⟩,hqi⟩,?_⟩
     rw [Po.tot_mk,Po.totL,h2]
     simp only [List.map_cons,List.map_nil,Rows.uptoBulk,Rows.uptoBulkAll]
     omega
    ·cases es
     have hel2:∀ i,i<len→∃ p:Po.T,(∃ cs',cs'.length=8∧CellsF (bZ W) b (i*8) cs'∧Po.R (bZ W) p cs')∧Po.in64 p∧∀ e,elems[i]?=some e→Po.tot p≤Rows.uptoBulk e.1:=fun i hi=>by
      have h1:=hat' i hi
      rw [List.getElem?_eq_getElem (by omega),Option.bind_eq_some_iff] at h1
      obtain ⟨cs',h3,h4⟩:=h1
      obtain ⟨p,h5,h6,h7⟩:=open27 t tS fs hT hS ti hI tP hP hfs hc hci hcp hcs N n' cs' _ (by omega) h4
      obtain ⟨_,h8,h9⟩:=World.cells?_some h3
      rw [hc] at h8 h9
      refine ⟨p,⟨cs',by omega,ez cs' _ fun j u hj=>?_,h5⟩,h6,fun e he=>?_⟩
      ·have:=h9 j (by have:=(List.getElem?_eq_some_iff.1 hj).1;omega)
       rw [au] at this
       exact this.trans hj
      ·rw [List.getElem?_eq_getElem (by omega)] at he
       cases he
       exact h7
     obtain ⟨l,hll,hl2⟩:=mJ hel2
     subst hll
     have hrow:Po.Row (bZ W) (.slice (some b) l.length cap) l:=⟨⟨some b,cap,rfl,hl,by simp⟩,fun i p hp=>by
      obtain ⟨⟨cs',h3,h4,h5⟩,_⟩:=hl2 i p hp
      exact ⟨cs',h5,h3,h4⟩⟩
     refine ⟨.mk k q a v l,Po.R.of (x:=.mk k q a v l) (A:=some b) (cap:=cap) ⟨hprow,hrow⟩,?_,?_⟩
     ·simp only [Po.in64,Po.in64L_iff]
      refine ⟨⟨dW wk,dW wa,dW wv⟩,hqi,fun p hp=>?_⟩
      obtain ⟨i,hi⟩:=List.getElem?_of_mem hp
      exact (hl2 i p hi).2.1
     ·have hb:=iY l elems hel.symm fun i p e hp he=>(hl2 i p hp).2.2 e he
      have e4':x4.1 = .slice (elems.map (·.1)) (rest.map (·.1)):=by rw [ex3]
      rw [Po.tot_mk,h2]
      simp only [List.map_cons,List.map_nil,Rows.uptoBulk,Rows.uptoBulkAll,e4']
      omega
end
end Go.Proofs.YtmehinfgdcmmjaaGreatDoor
