/- A part of the proof. -/
import Derived.Test.YtmehinfgdcmmjaaGreatDoorTJ23
import Derived.Test.YtmehinfgdcmmjaaGreatDoorTJ4
import Derived.Test.YtmehinfgdcmmjaaGreatDoorTJ24
import Derived.Test.YtmehinfgdcmmjaaGreatDoorTJ13
namespace Go.Proofs.YtmehinfgdcmmjaaGreatDoor
open Go.Sx
set_option maxRecDepth 20000
set_option linter.unusedSimpArgs false
set_option linter.unusedVariables false
set_option maxHeartbeats 4000000
theorem Fit1.slhs {i n n':Nat} {v v':Value} (h:v=v'):Fit1 (.sl i v n) (.hs v' n'):=.inr ⟨by simp,by rw [h];rfl⟩
theorem Fit1.nilhs {n':Nat} {v':Value} (h:v' = .slice none 0 0):Fit1 (.raw (.slice none 0 0)) (.hs v' n'):=.inr ⟨by simp,by rw [h];rfl⟩
theorem Po.SRow.mono {F G:Heap} (h:F.le G) {v:Value} {l:List Po.S} (hv:Po.SRow F v l):Po.SRow G v l:=aI.mono h (fun _ _ h=>h) hv
abbrev Po.Sents (F:Heap) (l:List Po.S) (r:AV) (m:List Blk):Prop:=∃ F' v,F.le F'∧Po.SRow F' v l∧r = .hs v l.length∧m=[hpB F']
theorem ko (F:Heap) (v w:Value) (a b:List Po.S) (hn:a.length+b.length≤1000000) (hv:Po.SRow F v a) (hw:Po.SRow F w b) :
  Qz Tryz.prog 207 [.hs v a.length,.hs w b.length] [hpB F] fun r m=>Po.Sents F (Po.both a b) r m:=by
 refine Qz.fits (K:=fun r m=>∃ F' u,F.le F'∧Po.SRow F' u (Po.both a b)∧r = .hs u (Po.both a b).length∧Qw m [hpB F']) ?_ fun r m' ⟨F',u,h1,h2,h3,h4⟩=>⟨r,_,rfl,h4,F',u,h1,h2,h3,rfl⟩
 have hok:=hv.ok
 have hokw:=hw.ok
 refine aB Tryz.func207 rfl (by decide) ?_
 repeat' first|(refine sxZ ?_;try clear hK K)|refine sxW ?_ ?_<;>intro _|(intro K hK _;conv=>whnf)
 refine aE (α:=Heap × Value × Nat) (fun (G,u,i)=>F.le G∧i≤b.length∧Po.SRow G u (Po.both a (b.take i))) (fun (G,u,i)=>[.set (.hs u (Po.both a (b.take i)).length),.k,.k,.k,.k,.set (.int .i64 i),.d,.d,.d,.d,.d,.d,.d,.d,.d,.d,.d,.d,.k]) (fun (G,u,i)=>[.set (hpB G)]) (fun (G,u,i)=>b.length - i) (F,v,0) ⟨F.le_refl,Nat.zero_le _,hv⟩ ?_ (Qw.eq rfl) ?_
 ·exact aD
 (intro ⟨G,u,i⟩ ⟨hle,hi,hu⟩;intro K hK;(conv=>whnf);refine hK _ _ ?_;clear hK K)
 dsimp only
 by_cases hlt:i<b.length
 ·have hx:b[i]?=some b[i]:=List.getElem?_eq_getElem hlt
  obtain ⟨g0,g1,g2,g3,g4⟩:=aI.get5 (f0:=fun s:Po.S=>.int .i64 s.port) (f1:=fun s=>.int .i64 s.p0) (f2:=fun s=>.int .i64 s.p1) (f3:=fun s=>.int .i64 s.p2) (f4:=fun s=>.int .i64 s.p3) (Po.SRow.mono hle hw) hlt
  have hln:=Po.both_len (b.take i) a
  rw [List.length_take] at hln
  have cp:=mC G u (Po.both a (b.take i)) b[i] (by omega) hu
  have hnx:=Po.both_take a hlt
  rw [← hnx] at cp
  have huo:=hu.ok
  generalize Po.both a (b.take i)=A at *
  generalize hA2:Po.both a (b.take (i+1))=A2 at *
  clear hnx hx
  generalize b[i]=x at *
  obtain ⟨x0,x1,x2,x3,x4⟩:=x
  dsimp only [Po.S.av] at *
  repeat' first|(intro K hK;(with_reducible refine gC ?_);(refine cN [0] cp ?_;rintro _ _ ⟨G2,u2,hle2,hu2,rfl,rfl⟩;refine cR ?_))|(refine aJ [] ?_;try clear hK K)|refine sxW ?_ ?_<;>intro _|refine aK ?_ ?_|(intro K hK _;conv=>whnf)
  all_goals
   refine aC (G2,u2,i+1) ⟨hle.trans hle2,hlt,hA2 ▸ hu2⟩ (by show b.length - (i+1)<b.length - i;omega) ?_ (Qw.eq rfl)
   dsimp only
   rw [hA2]
   exact aD
 ·have hib:i=b.length:=by omega
  subst hib
  rw [List.take_length] at hu ⊢
  repeat' first|(refine sxZ ?_;try clear hK K)|refine sxW ?_ ?_<;>intro _|(intro K hK _;conv=>whnf)
  all_goals exact ⟨G,u,hle,hu,rfl,Qw.pre 1 rfl⟩
theorem Qw.frz3 {F:Heap} {b1 b2 b3:Blk} {a:Addr} {cs:List AV} {v:Value} {t:TypeId} {sz n:Nat}:Qw [hpB F,b1,b2,b3,⟨a,cs,.row v t sz n⟩] [hpB (addF F (addrOf v) (denL cs)),b1,b2,hpB noHeap,hpB noHeap] :=
 ((Qw.pick (m':=[hpB F,⟨a,cs,.row v t sz n⟩,b1,b2]) [0,4,1,2] (by decide) rfl).trans (Qw.freeze (m:=[b1,b2]))).trans (((Qw.noHeap _).trans (Qw.noHeap _)).trans (Qw.pick [2,3,4,0,1] (by decide) rfl))
theorem Qw.in3 {G:Heap} {b1 b2 b3 b4:Blk}:Qw [hpB G,b1,b2,b3,b4] [hpB G,b1,b2,b3,hpB G] :=
 (Qw.pick (m':=[hpB G,b1,b2,b3]) [0,1,2,3] (by decide) rfl).trans ((Qw.dup G.le_refl _).trans (Qw.pick [0,2,3,4,1] (by decide) rfl))
theorem Qw.in2 {G:Heap} {b1 b2:Blk}:Qw [hpB G,b1,b2] [hpB G,b1,b2,hpB G] :=
 (Qw.dup G.le_refl _).trans (Qw.pick [0,2,3,1] (by decide) rfl)
theorem Qw.out3 {G G2:Heap} {b1 b2 b3:Blk}:Qw [hpB G,b1,b2,b3,hpB G2] [hpB G2,b1,b2,b3,hpB noHeap] :=
 (Qw.pick (m':=[hpB G2,b1,b2,b3]) [4,1,2,3] (by decide) rfl).trans ((Qw.noHeap _).trans (Qw.pick [1,2,3,4,0] (by decide) rfl))
theorem Po.with_port (f v:Int) (s:Po.S):(Po.withS f v s).port=s.port:=by
 unfold Po.withS
 repeat' split
 all_goals rfl
theorem Po.with_4 (v:Int) (s:Po.S):Po.withS 4 v s=s:=if_neg (by omega)
theorem Po.put_eq (f v:Int) (s:Po.S):Po.put f v s=if f=4 then { s with port:=v } else Po.withS f v s:=rfl
theorem fI (F:Heap) (sw:Int) (k f v:Int) (p:Pd.T) (l:List Po.T) (pu u:Value) (s:Po.S) (hk:k=1∨k=2) (hs:Pd.size p≤4611686018427387904) (hx:Po.At F (.mk k p f v l) pu u) :
  Qz Tryz.prog 168 [.agg (Po.cs (.mk k p f v l) pu u),.int .i64 sw,.int .i64 s.port,.agg [.int .i64 s.p0,.int .i64 s.p1,.int .i64 s.p2,.int .i64 s.p3]] [hpB F] fun r m=>∃ w:Value,r.den=aw w∧Qw m [hpB F,⟨addrOf w,Po.savs (Po.runs sw (.mk k p f v l) s),.row w 48 5 (Po.runs sw (.mk k p f v l) s).length⟩]:=by
 have hu:Po.Row F u l:=hx.l
 have hpu:Pd.Row F pu p.l:=hx.p
 have hok:=hu.ok
 have hpok:=hpu.ok
 have ch:=bp F (s.at_ sw) _ p pu (Nat.le_refl _) hs hpu
 have cw:=jg s f v
 have eR:=Po.runs_mk sw k p f v l s
 rw [eR]
 clear eR
 have hport:=Po.with_port f v s
 have hput:=Po.put_eq f v s
 have hp4:f=4→Po.withS f v s=s:=fun e=>e ▸ Po.with_4 v s
 generalize Po.withS f v s=W at *
 generalize Po.put f v s=U at *
 generalize Pd.hits (s.at_ sw) p=hh at *
 clear hu hpu hx
 obtain ⟨pk,pf,pv,pl⟩:=p
 obtain ⟨a0,a1,a2,a3,a4⟩:=s
 obtain ⟨w0,w1,w2,w3,w4⟩:=W
 simp only [pd_cs,aY,Pd.T.k,Pd.T.f,Pd.T.v,Pd.T.l,Po.S.at_,Pd.At.pk] at *
 rcases hk with rfl | rfl
 ·cases hh with
  | true =>
   rw [if_pos rfl,if_pos rfl]
   refine aB Tryz.func168 rfl (by decide) ?_
   repeat' first|(intro K hK;(with_reducible refine gC ?_);refine cS [0] ch ?_)|(refine sxZ ?_;try clear hK K)|refine sxW ?_ ?_<;>intro _|(intro K hK _;conv=>whnf)
   all_goals
    rename_i v9
    exact ⟨v9,rfl,Qw.pick [0,4] (by decide) rfl⟩
  | false =>
   rw [if_pos rfl,if_neg (by decide)]
   refine aB Tryz.func168 rfl (by decide) ?_
   repeat' first|(intro K hK;(with_reducible refine gC ?_);refine cS [0] ch ?_)|(refine sxZ ?_;try clear hK K)|refine sxW ?_ ?_<;>intro _|(intro K hK _;conv=>whnf)
   all_goals exact ⟨.slice none 0 0,rfl,(Qw.pre (m':=[hpB F]) 1 rfl).trans (Qw.nilRow [hpB F] _ _)⟩
 ·rw [if_neg (by decide),if_pos rfl]
  by_cases hf:f=4
  ·subst hf
   rw [if_pos rfl] at hput
   injection hp4 rfl with j0 j1 j2 j3 j4
   subst j0 j1 j2 j3 j4
   subst hput
   refine aB Tryz.func168 rfl (by decide) ?_
   repeat' first|(intro K hK;(with_reducible refine gC ?_);first|refine cS [0] ch ?_|refine cP cw ?_)|(refine aJ [] ?_;try clear hK K)|refine sxW ?_ ?_<;>intro _|refine aK ?_ ?_|(intro K hK _;conv=>whnf)
   all_goals
    rename_i v9
    exact ⟨v9,rfl,Qw.pick [0,4] (by decide) rfl⟩
  ·rw [if_neg hf] at hput
   subst hput hport
   refine aB Tryz.func168 rfl (by decide) ?_
   repeat' first|(intro K hK;(with_reducible refine gC ?_);first|refine cS [0] ch ?_|refine cP cw ?_)|(refine aJ [] ?_;try clear hK K)|refine sxW ?_ ?_<;>intro _|refine aK ?_ ?_|(intro K hK _;conv=>whnf)
   all_goals
    rename_i v9
    exact ⟨v9,rfl,Qw.pick [0,4] (by decide) rfl⟩
theorem lJ (F:Heap) (sw:Int) (f v:Int) (p:Pd.T) (l:List Po.T) (pu u:Value) (s:Po.S) (hs:Pd.size p≤4611686018427387904) (hl8:l.length≤8) (hfit:Po.fits (.mk 3 p f v l)=true) (hwd:Po.wide (.mk 3 p f v l)<1000) (hx:Po.At F (.mk 3 p f v l) pu u)
  (ih:∀ (i:Nat) (hi:i<l.length) (G:Heap) (pw w:Value) (t:Po.S),Po.At G l[i] pw w→Qz Tryz.prog 168 [.agg (Po.cs l[i] pw w),.int .i64 sw,.int .i64 t.port,.agg [.int .i64 t.p0,.int .i64 t.p1,.int .i64 t.p2,.int .i64 t.p3]] [hpB G] fun r m=>Po.Sents G (Po.runs sw l[i] t) r m) :
  Qz Tryz.prog 168 [.agg (Po.cs (.mk 3 p f v l) pu u),.int .i64 sw,.int .i64 s.port,.agg [.int .i64 s.p0,.int .i64 s.p1,.int .i64 s.p2,.int .i64 s.p3]] [hpB F] fun r m=>Po.Sents F (Po.runs sw (.mk 3 p f v l) s) r m:=by
 refine Qz.fits (K:=fun r m=>∃ F' u,F.le F'∧Po.SRow F' u (Po.runs sw (.mk 3 p f v l) s)∧r = .hs u (Po.runs sw (.mk 3 p f v l) s).length∧Qw m [hpB F']) ?_ fun r m' ⟨F',u,h1,h2,h3,h4⟩=>⟨r,_,rfl,h4,F',u,h1,h2,h3,rfl⟩
 have hu:Po.Row F u l:=hx.l
 have hpu:Pd.Row F pu p.l:=hx.p
 have hok:=hu.ok
 have hpok:=hpu.ok
 have ch:=bp F (s.at_ sw) _ p pu (Nat.le_refl _) hs hpu
 obtain ⟨hq1,hq2⟩:=Po.seq_parts sw 0 hfit hwd s
 have eR:=Po.runs_k3 sw f v p l s
 have eZ:Po.runsQ sw (l.take 0) [s]=[s]:=by rw [List.take_zero,Po.runsQ]
 have eT:∀ i (hi:i<l.length),Po.runsQ sw (l.take (i+1)) [s]=Po.thenS sw l[i] (Po.runsQ sw (l.take i) [s]):=fun i hi=>Po.runsQ_take sw hi [s]
 rw [eR]
 clear eR hfit hwd hx
 generalize Pd.hits (s.at_ sw) p=hh at *
 clear hpu
 obtain ⟨pk,pf,pv,pl⟩:=p
 have hone:∀ w:Value,SlOk w 1→Po.SRow (addF F (addrOf w) (denL s.av)) w [s]:=fun w hw=>aM (F:=F) (sz:=5) (enc:=Po.S.vs) hw (by rw [Po.S.den];simp) (fun x _=>rfl)
 obtain ⟨a0,a1,a2,a3,a4⟩:=s
 simp only [pd_cs,aY,Pd.T.k,Pd.T.f,Pd.T.v,Pd.T.l,Po.S.at_,Pd.At.pk,Po.S.av] at *
 generalize hQ:(fun i=>Po.runsQ sw (l.take i) [⟨a0,a1,a2,a3,a4⟩])=Q
 have eQ:∀ i,Po.runsQ sw (l.take i) [⟨a0,a1,a2,a3,a4⟩]=Q i:=fun i=>by rw [← hQ]
 have eL:Po.runsQ sw l [⟨a0,a1,a2,a3,a4⟩]=Q l.length:=by rw [← hQ];simp
 rw [eL]
 simp only [eQ] at hq1 eZ eT
 clear eQ eL hQ
 refine aB Tryz.func168 rfl (by decide) ?_
 repeat' first|(intro K hK;(with_reducible refine gC ?_);refine cS [0] ch ?_)|(refine sxZ ?_;try clear hK K)|refine sxW ?_ ?_<;>intro _|(intro K hK _;conv=>whnf)
 refine oJ (α:=Heap × Value × Nat) (fun (G,w,i)=>F.le G∧i≤l.length∧Po.SRow G w (Q i)) (fun (G,w,i)=>[.k,.k,.k,.k,.k,.k,.k,.k,.k,.set (.hs w (Q i).length),.k,.set (.int .i64 i),.d,.d,.k,.k,.k,.k,.k,.k,.k,.k,.k,.k,.k,.k,.k,.k,.k,.k,.k,.k,.k,.k,.k,.k,.k,.k,.k,.k,.k,.k,.k,.k,.k,.k,.k,.k,.k,.k,.k,.k,.k,.k,.k,.k,.k,.k,.d,.d,.d,.d,.d,.d,.d,.d,.d,.d,.d,.d,.d,.d,.d,.d,.d,.d,.d,.d,.d,.d,.d,.d,.d,.d,.d,.d,.d,.d,.d,.d,.d,.k,.k,.k,.k,.k,.k,.k,.k,.k,.k,.k,.k,.k,.k,.k,.k,.k,.k,.k,.k,.k,.k,.k,.k,.k,.k,.k,.k,.k,.k,.k,.k,.k,.k,.k,.k,.k,.k,.k,.k]) (fun (G,w,i)=>[.set (hpB G),.k,.k,.set (hpB noHeap),.set (hpB noHeap)]) (fun (G,w,i)=>l.length - i) ?_ ?_
 ·rename_i v9
  rintro ⟨W0,hW0⟩
  have hok1:SlOk v9 1:=(hW0.row (List.mem_cons_of_mem _ (List.mem_cons_of_mem _ (List.mem_cons_of_mem _ (List.mem_cons_of_mem _ (List.mem_singleton.2 rfl)))))).1
  refine ⟨(addF F (addrOf v9) (denL [.int .i64 a0,.int .i64 a1,.int .i64 a2,.int .i64 a3,.int .i64 a4]),v9,0),⟨addF.old,Nat.zero_le _,eZ ▸ hone v9 hok1⟩,?_,Qw.frz3⟩
  dsimp only
  rw [eZ]
  repeat (first | exact Qq.nil | refine Qq.any ?_ | refine Qq.cons (Fit1.slhs (by  rfl)) ?_ | refine Qq.cons (Fit1.int (by first | rfl | omega)) ?_ | refine Qq.cons (Fit1.bool rfl) ?_ | refine Qq.cons (Fit1.str rfl) ?_ | refine Qq.cons (Fit1.same (by intro h;cases h) (by with_reducible rfl)) ?_ | refine Qq.cons Fit1.nil_sl ?_ | refine Qq.cons (Fit1.hs rfl) ?_ | refine Qq.cons (Fit1.hp rfl rfl) ?_ | refine Qq.cons (Fit1.sl rfl) ?_ | refine Qq.cons (Fit1.ptr rfl rfl) ?_ | refine Qq.cons Fit1.raw ?_)
 (intro ⟨G,w,i⟩ ⟨hle,hi,hw⟩;intro K hK;(conv=>whnf);refine hK _ _ ?_;clear hK K)
 dsimp only
 by_cases hlt:i<l.length
 ·have hx:l[i]?=some l[i]:=List.getElem?_eq_getElem hlt
  have hcell:=fun G2 (h:F.le G2)=>(Po.Row.mono h hu).get hx
  have hln:=hq1 i
  obtain ⟨hw1,hw2⟩:=hq2 i hlt
  have ih:=ih i hlt
  have eT:=eT i hlt
  have hwo:=hw.ok
  clear hq1 hq2 eZ hone ch hx
  generalize l[i]=y at *
  generalize hO:Q i=O at *
  have hPl:∀ k (hk:k<O.length),((O.take k).foldl (fun next t=>Po.both next (Po.runs sw y t)) []).length+(Po.runs sw y O[k]).length≤1000000:=fun k hk=>by
   have h1:=Po.fold_len sw y (Po.wide y) hw2 (O.take k) []
   have h2:=hw2 O[k]
   rw [List.length_take,Nat.min_eq_left (by omega),List.length_nil] at h1
   have h3:=Nat.mul_le_mul (show k+1≤1000 by omega) (show Po.wide y≤1000 by omega)
   rw [Nat.succ_mul] at h3
   omega
  have hPs:=fun k (hk:k<O.length)=>Po.fold_take sw y hk
  have hPe:(O.take O.length).foldl (fun next t=>Po.both next (Po.runs sw y t)) []=Q (i+1):=by rw [List.take_length,eT];rfl
  generalize hP:(fun k=>(O.take k).foldl (fun next t=>Po.both next (Po.runs sw y t)) [])=P
  have eP:∀ k,(O.take k).foldl (fun next t=>Po.both next (Po.runs sw y t)) []=P k:=fun k=>by rw [← hP]
  have eP0:P 0=[]:=by rw [← hP];simp
  simp only [eP] at hPl hPs hPe
  clear eP hP eT hw1 hw2
  repeat' first|(refine sxZ ?_;try clear hK K)|refine sxW ?_ ?_<;>intro _|(intro K hK _;conv=>whnf)
  refine aE (α:=Heap × Value × Nat) (fun (G2,w2,k)=>G.le G2∧k≤O.length∧Po.SRow G2 w2 (P k)) (fun (G2,w2,k)=>[.k,.k,.k,.k,.k,.k,.k,.k,.k,.k,.k,.k,.set (.hs w2 (P k).length),.set (.int .i64 k),.k,.k,.k,.k,.k,.k,.k,.k,.k,.k,.k,.k,.k,.k,.k,.k,.k,.k,.k,.k,.k,.k,.k,.k,.k,.k,.k,.k,.k,.k,.k,.k,.k,.k,.k,.k,.k,.k,.k,.k,.k,.k,.k,.k,.k,.k,.k,.k,.k,.k,.k,.d,.d,.d,.d,.d,.d,.d,.d,.d,.d,.d,.d,.d,.d,.d,.d,.d,.d,.d,.d,.d,.d,.d,.d,.d,.k,.k,.k,.k,.k,.k,.k,.k,.k,.k,.k,.k,.k,.k,.k,.k,.k,.k,.k,.k,.k,.k,.k,.k,.k,.k,.k,.k,.k,.k,.k,.k,.k,.k,.k,.k,.k,.k,.k,.k,.k]) (fun (G2,w2,k)=>[.k,.k,.k,.k,.set (hpB G2)]) (fun (G2,w2,k)=>O.length - k) (G,.slice none 0 0,0) ⟨G.le_refl,Nat.zero_le _,eP0 ▸ aI.nil⟩ ?_ Qw.in3 ?_
  ·dsimp only
   rw [eP0]
   repeat (first | exact Qq.nil | refine Qq.any ?_ | refine Qq.cons (Fit1.nilhs (by  rfl)) ?_ | refine Qq.cons (Fit1.int (by first | rfl | omega)) ?_ | refine Qq.cons (Fit1.bool rfl) ?_ | refine Qq.cons (Fit1.str rfl) ?_ | refine Qq.cons (Fit1.same (by intro h;cases h) (by with_reducible rfl)) ?_ | refine Qq.cons Fit1.nil_sl ?_ | refine Qq.cons (Fit1.hs rfl) ?_ | refine Qq.cons (Fit1.hp rfl rfl) ?_ | refine Qq.cons (Fit1.sl rfl) ?_ | refine Qq.cons (Fit1.ptr rfl rfl) ?_ | refine Qq.cons Fit1.raw ?_)
  (intro ⟨G2,w2,k⟩ ⟨hle2,hk,hr2⟩;intro K hK;(conv=>whnf);refine hK _ _ ?_;clear hK K)
  dsimp only
  have hro:=hr2.ok
  by_cases hlt2:k<O.length
  ·have hx2:O[k]?=some O[k]:=List.getElem?_eq_getElem hlt2
   obtain ⟨g0,g1,g2,g3,g4⟩:=aI.get5 (f0:=fun s:Po.S=>.int .i64 s.port) (f1:=fun s=>.int .i64 s.p0) (f2:=fun s=>.int .i64 s.p1) (f3:=fun s=>.int .i64 s.p2) (f4:=fun s=>.int .i64 s.p3) hw hlt2
   obtain ⟨pA,pcap,A,cap,hA,c0,c1,c2,c3,c4,c5,c6,c7⟩:=hcell G hle
   have cr:=ih G2 _ _ O[k] (Po.At.mono hle2 hA)
   have hAo:=hA.l.ok
   have hAp:=hA.p.ok
   have cb:=fun G3 (h:G2.le G3) v3 (hv3:Po.SRow G3 v3 (Po.runs sw y O[k]))=>ko G3 w2 v3 (P k) (Po.runs sw y O[k]) (hPl k hlt2) (Po.SRow.mono h hr2) hv3
   rw [← hPs k hlt2] at cb
   clear hPl hPs hPe ih hcell hx2
   generalize O[k]=x at *
   generalize Po.runs sw y x=L at *
   generalize hPk1:P (k+1)=P1 at *
   generalize P k=P0 at *
   obtain ⟨yk,⟨ypk,ypf,ypv,ypl⟩,yf,yv,yl⟩:=y
   obtain ⟨x0,x1,x2,x3,x4⟩:=x
   simp only [Po.cs,Po.T.k,Po.T.p,Po.T.f,Po.T.v,Po.T.l,Pd.T.k,Pd.T.f,Pd.T.v,Pd.T.l] at *
   repeat' first|(intro K hK;(with_reducible refine gC ?_);first|(refine cN [4] cr ?_;rintro _ _ ⟨G3,v3,hle3,hv3,rfl,rfl⟩;refine cR ?_)|(refine cN [4] (cb G3 hle3 v3 hv3) ?_;rintro _ _ ⟨G4,v4,hle4,hv4,rfl,rfl⟩;refine cR ?_))|(refine aJ [4] ?_;try clear hK K)|refine sxW ?_ ?_<;>intro _|refine aK ?_ ?_|(intro K hK _;conv=>whnf)
   all_goals
    refine aC (G4,v4,k+1) ⟨hle2.trans (hle3.trans hle4),hlt2,hPk1 ▸ hv4⟩ (by show O.length - (k+1)<O.length - k;omega) ?_ (Qw.eq rfl)
    dsimp only
    rw [hPk1]
    exact aD
  ·have hkl:k=O.length:=by omega
   subst hkl
   rw [hPe] at hr2 hro ⊢
   clear hPl hPs hcell ih
   repeat' first|(refine sxZ ?_;try clear hK K)|refine sxW ?_ ?_<;>intro _|(intro K hK _;conv=>whnf)
   refine aC (G2,w2,i+1) ⟨hle.trans hle2,hlt,hr2⟩ (by show l.length - (i+1)<l.length - i;omega) ?_ Qw.out3
   dsimp only
   exact aD
 ·have hil:i=l.length:=by omega
  subst hil
  have hwo:=hw.ok
  repeat' first|(refine sxZ ?_;try clear hK K)|refine sxW ?_ ?_<;>intro _|(intro K hK _;conv=>whnf)
  all_goals exact ⟨G,w,hle,hw,rfl,Qw.pre 1 rfl⟩
theorem lI (F:Heap) (sw:Int) (f v:Int) (p:Pd.T) (l:List Po.T) (pu u:Value) (s:Po.S) (hs:Pd.size p≤4611686018427387904) (hl8:l.length≤8) (hfit:Po.fits (.mk 4 p f v l)=true) (hwd:Po.wide (.mk 4 p f v l)<1000) (hx:Po.At F (.mk 4 p f v l) pu u)
  (ih:∀ (i:Nat) (hi:i<l.length) (G:Heap) (pw w:Value) (t:Po.S),Po.At G l[i] pw w→Qz Tryz.prog 168 [.agg (Po.cs l[i] pw w),.int .i64 sw,.int .i64 t.port,.agg [.int .i64 t.p0,.int .i64 t.p1,.int .i64 t.p2,.int .i64 t.p3]] [hpB G] fun r m=>Po.Sents G (Po.runs sw l[i] t) r m) :
  Qz Tryz.prog 168 [.agg (Po.cs (.mk 4 p f v l) pu u),.int .i64 sw,.int .i64 s.port,.agg [.int .i64 s.p0,.int .i64 s.p1,.int .i64 s.p2,.int .i64 s.p3]] [hpB F] fun r m=>Po.Sents F (Po.runs sw (.mk 4 p f v l) s) r m:=by
 refine Qz.fits (K:=fun r m=>∃ F' u,F.le F'∧Po.SRow F' u (Po.runs sw (.mk 4 p f v l) s)∧r = .hs u (Po.runs sw (.mk 4 p f v l) s).length∧Qw m [hpB F']) ?_ fun r m' ⟨F',u,h1,h2,h3,h4⟩=>⟨r,_,rfl,h4,F',u,h1,h2,h3,rfl⟩
 have hu:Po.Row F u l:=hx.l
 have hpu:Pd.Row F pu p.l:=hx.p
 have hok:=hu.ok
 have hpok:=hpu.ok
 have ch:=bp F (s.at_ sw) _ p pu (Nat.le_refl _) hs hpu
 obtain ⟨hq1,hq2⟩:=Po.uni_parts sw hfit hwd s
 have eR:=Po.runs_k4 sw f v p l s
 have eZ:Po.runsU sw (l.take 0) s []=[]:=Po.runsU_nil sw s
 have eT:∀ i (hi:i<l.length),Po.runsU sw (l.take (i+1)) s []=Po.both (Po.runsU sw (l.take i) s []) (Po.runs sw l[i] s):=fun i hi=>Po.runsU_take sw hi s []
 rw [eR]
 clear eR hfit hwd hx
 generalize Pd.hits (s.at_ sw) p=hh at *
 clear hpu
 obtain ⟨pk,pf,pv,pl⟩:=p
 generalize hQ:(fun i=>Po.runsU sw (l.take i) s [])=Q
 have eQ:∀ i,Po.runsU sw (l.take i) s []=Q i:=fun i=>by rw [← hQ]
 have eL:Po.runsU sw l s []=Q l.length:=by rw [← hQ];exact congrArg (fun z=>Po.runsU sw z s []) List.take_length.symm
 rw [eL]
 simp only [eQ] at hq1 eZ eT
 clear eQ eL hQ
 have hbd:∀ i (hi:i<l.length),(Q i).length+(Po.runs sw l[i] s).length≤1000000:=fun i hi=>by
  have h1:=hq1 i
  obtain ⟨h2,h3⟩:=hq2 i hi
  have h3:=h3 s
  omega
 have ih:=fun i hi G pw w=>ih i hi G pw w s
 clear hq1 hq2
 obtain ⟨a0,a1,a2,a3,a4⟩:=s
 simp only [pd_cs,aY,Pd.T.k,Pd.T.f,Pd.T.v,Pd.T.l,Po.S.at_,Pd.At.pk,Po.S.av] at *
 refine aB Tryz.func168 rfl (by decide) ?_
 repeat' first|(intro K hK;(with_reducible refine gC ?_);refine cS [0] ch ?_)|(refine sxZ ?_;try clear hK K)|refine sxW ?_ ?_<;>intro _|(intro K hK _;conv=>whnf)
 refine aE (α:=Heap × Value × Nat) (fun (G,w,i)=>F.le G∧i≤l.length∧Po.SRow G w (Q i)) (fun (G,w,i)=>[.k,.k,.k,.k,.k,.k,.k,.k,.k,.set (.hs w (Q i).length),.k,.k,.k,.k,.set (.int .i64 i),.k,.k,.k,.k,.k,.k,.k,.k,.k,.k,.k,.k,.k,.k,.k,.k,.k,.k,.k,.k,.k,.k,.k,.k,.k,.k,.k,.k,.k,.k,.k,.k,.k,.k,.k,.k,.k,.k,.k,.k,.k,.k,.k,.k,.k,.k,.k,.k,.k,.k,.k,.k,.k,.k,.k,.k,.k,.k,.k,.k,.k,.k,.k,.k,.k,.k,.k,.k,.k,.k,.k,.k,.k,.k,.k,.k,.k,.k,.d,.d,.d,.d,.d,.d,.d,.d,.d,.d,.d,.d,.d,.d,.d,.d,.d,.d,.k,.k,.k,.k,.k,.k,.k,.k,.k,.k,.k,.k,.k,.k,.k,.k,.k,.k,.k,.k]) (fun (G,w,i)=>[.k,.k,.k,.set (hpB G)]) (fun (G,w,i)=>l.length - i) (F,.slice none 0 0,0) ⟨F.le_refl,Nat.zero_le _,eZ ▸ aI.nil⟩ ?_ Qw.in2 ?_
 ·dsimp only
  rw [eZ]
  repeat (first | exact Qq.nil | refine Qq.any ?_ | refine Qq.cons (Fit1.nilhs (by  rfl)) ?_ | refine Qq.cons (Fit1.int (by first | rfl | omega)) ?_ | refine Qq.cons (Fit1.bool rfl) ?_ | refine Qq.cons (Fit1.str rfl) ?_ | refine Qq.cons (Fit1.same (by intro h;cases h) (by with_reducible rfl)) ?_ | refine Qq.cons Fit1.nil_sl ?_ | refine Qq.cons (Fit1.hs rfl) ?_ | refine Qq.cons (Fit1.hp rfl rfl) ?_ | refine Qq.cons (Fit1.sl rfl) ?_ | refine Qq.cons (Fit1.ptr rfl rfl) ?_ | refine Qq.cons Fit1.raw ?_)
 (intro ⟨G,w,i⟩ ⟨hle,hi,hw⟩;intro K hK;(conv=>whnf);refine hK _ _ ?_;clear hK K)
 dsimp only
 by_cases hlt:i<l.length
 ·have hx:l[i]?=some l[i]:=List.getElem?_eq_getElem hlt
  obtain ⟨pA,pcap,A,cap,hA,c0,c1,c2,c3,c4,c5,c6,c7⟩:=hu.get hx
  have hbd:=hbd i hlt
  have cr:=ih i hlt G _ _ (Po.At.mono hle hA)
  have eT:=eT i hlt
  have hwo:=hw.ok
  have hAo:=hA.l.ok
  have hAp:=hA.p.ok
  have cb:=fun G3 (h:G.le G3) v3 (hv3:Po.SRow G3 v3 (Po.runs sw l[i] ⟨a0,a1,a2,a3,a4⟩))=>ko G3 w v3 (Q i) (Po.runs sw l[i] ⟨a0,a1,a2,a3,a4⟩) hbd (Po.SRow.mono h hw) hv3
  rw [← eT] at cb
  clear eZ ch hx ih eT hbd
  generalize Po.runs sw l[i] ⟨a0,a1,a2,a3,a4⟩=L at *
  generalize l[i]=y at *
  generalize Q i=O at *
  generalize hP1:Q (i+1)=P1 at *
  obtain ⟨yk,⟨ypk,ypf,ypv,ypl⟩,yf,yv,yl⟩:=y
  simp only [Po.cs,Po.T.k,Po.T.p,Po.T.f,Po.T.v,Po.T.l,Pd.T.k,Pd.T.f,Pd.T.v,Pd.T.l] at *
  repeat' first|(intro K hK;(with_reducible refine gC ?_);first|(refine cN [3] cr ?_;rintro _ _ ⟨G3,v3,hle3,hv3,rfl,rfl⟩;refine cR ?_)|(refine cN [3] (cb G3 hle3 v3 hv3) ?_;rintro _ _ ⟨G4,v4,hle4,hv4,rfl,rfl⟩;refine cR ?_))|(refine aJ [3] ?_;try clear hK K)|refine sxW ?_ ?_<;>intro _|refine aK ?_ ?_|(intro K hK _;conv=>whnf)
  all_goals
   refine aC (G4,v4,i+1) ⟨hle.trans (hle3.trans hle4),hlt,hP1 ▸ hv4⟩ (by show l.length - (i+1)<l.length - i;omega) ?_ (Qw.eq rfl)
   dsimp only
   rw [hP1]
   exact aD
 ·have hil:i=l.length:=by omega
  subst hil
  have hwo:=hw.ok
  repeat' first|(refine sxZ ?_;try clear hK K)|refine sxW ?_ ?_<;>intro _|(intro K hK _;conv=>whnf)
  all_goals exact ⟨G,w,hle,hw,rfl,Qw.pick [3] (by decide) rfl⟩
theorem lH (F:Heap) (sw:Int) (f v:Int) (p:Pd.T) (a b:Po.T) (pu u:Value) (s:Po.S) (hs:Pd.size p≤4611686018427387904) (hx:Po.At F (.mk 5 p f v [a,b]) pu u)
  (ca:∀ (pw w:Value),Po.At F a pw w→Qz Tryz.prog 168 [.agg (Po.cs a pw w),.int .i64 sw,.int .i64 s.port,.agg [.int .i64 s.p0,.int .i64 s.p1,.int .i64 s.p2,.int .i64 s.p3]] [hpB F] fun r m=>Po.Sents F (Po.runs sw a s) r m)
  (cb:∀ (pw w:Value),Po.At F b pw w→Qz Tryz.prog 168 [.agg (Po.cs b pw w),.int .i64 sw,.int .i64 s.port,.agg [.int .i64 s.p0,.int .i64 s.p1,.int .i64 s.p2,.int .i64 s.p3]] [hpB F] fun r m=>Po.Sents F (Po.runs sw b s) r m) :
  Qz Tryz.prog 168 [.agg (Po.cs (.mk 5 p f v [a,b]) pu u),.int .i64 sw,.int .i64 s.port,.agg [.int .i64 s.p0,.int .i64 s.p1,.int .i64 s.p2,.int .i64 s.p3]] [hpB F] fun r m=>Po.Sents F (Po.runs sw (.mk 5 p f v [a,b]) s) r m:=by
 refine Qz.pre (mL:=[hpB F,hpB F]) ?_ rfl (Qw.dup F.le_refl [])
 refine Qz.fits (K:=fun r m=>∃ F' u,F.le F'∧Po.SRow F' u (Po.runs sw (.mk 5 p f v [a,b]) s)∧r = .hs u (Po.runs sw (.mk 5 p f v [a,b]) s).length∧Qw m [hpB F']) ?_ fun r m' ⟨F',u,h1,h2,h3,h4⟩=>⟨r,_,rfl,h4,F',u,h1,h2,h3,rfl⟩
 have hu:Po.Row F u [a,b]:=hx.l
 have hpu:Pd.Row F pu p.l:=hx.p
 have hok:=hu.ok
 have hpok:=hpu.ok
 have ch:=bp F (s.at_ sw) _ p pu (Nat.le_refl _) hs hpu
 have eR:=Po.runs_k5 sw f v p a b s
 rw [eR]
 clear eR hx
 generalize Pd.hits (s.at_ sw) p=hh at *
 obtain ⟨pA,pcap,A,cap,hA,c0,c1,c2,c3,c4,c5,c6,c7⟩:=hu.get (i:=0) rfl
 obtain ⟨pB,pcap',B,cap',hB,d0,d1,d2,d3,d4,d5,d6,d7⟩:=hu.get (i:=1) rfl
 have ca:=ca _ _ hA
 have cb:=cb _ _ hB
 have hAo:=hA.l.ok
 have hAp:=hA.p.ok
 have hBo:=hB.l.ok
 have hBp:=hB.p.ok
 clear hpu
 generalize Po.runs sw a s=La at *
 generalize Po.runs sw b s=Lb at *
 obtain ⟨pk,pf,pv,pl⟩:=p
 obtain ⟨a0,a1,a2,a3,a4⟩:=s
 obtain ⟨ak,⟨apk,apf,apv,apl⟩,af,av,al⟩:=a
 obtain ⟨bk,⟨bpk,bpf,bpv,bpl⟩,bf,bv,bl⟩:=b
 simp only [pd_cs,aY,Po.cs,Po.T.k,Po.T.p,Po.T.f,Po.T.v,Po.T.l,Pd.T.k,Pd.T.f,Pd.T.v,Pd.T.l,Po.S.at_,Pd.At.pk,Po.S.av,List.length_cons,List.length_nil] at *
 cases hh with
 | true =>
  rw [if_pos rfl]
  refine aB Tryz.func168 rfl (by decide) ?_
  repeat' first|(intro K hK;(with_reducible refine gC ?_);first|refine cS [0] ch ?_|(refine cN [1] ca ?_;rintro _ _ ⟨G3,v3,hle3,hv3,rfl,rfl⟩;refine cR ?_))|(refine aJ [1] ?_;try clear hK K)|refine sxW ?_ ?_<;>intro _|refine aK ?_ ?_|(intro K hK _;conv=>whnf)
  all_goals exact ⟨G3,v3,hle3,hv3,rfl,Qw.pick [1] (by decide) rfl⟩
 | false =>
  rw [if_neg (by decide)]
  refine aB Tryz.func168 rfl (by decide) ?_
  repeat' first|(intro K hK;(with_reducible refine gC ?_);first|refine cS [0] ch ?_|(refine cN [1] cb ?_;rintro _ _ ⟨G3,v3,hle3,hv3,rfl,rfl⟩;refine cR ?_))|(refine aJ [1] ?_;try clear hK K)|refine sxW ?_ ?_<;>intro _|refine aK ?_ ?_|(intro K hK _;conv=>whnf)
  all_goals exact ⟨G3,v3,hle3,hv3,rfl,Qw.pick [1] (by decide) rfl⟩
theorem cL (sw:Int):∀ (n:Nat) (F:Heap) (x:Po.T) (pu u:Value) (s:Po.S),Po.tot x≤n→Po.tot x≤4611686018427387904→Po.fits x=true→Po.wide x<1000→Po.At F x pu u →
  Qz Tryz.prog 168 [.agg (Po.cs x pu u),.int .i64 sw,.int .i64 s.port,.agg [.int .i64 s.p0,.int .i64 s.p1,.int .i64 s.p2,.int .i64 s.p3]] [hpB F] fun r m=>Po.Sents F (Po.runs sw x s) r m
 | 0,F,x,pu,u,s,hn,_,_,_,_=>absurd (Po.tot_pos x) (by omega)
 | n+1,F,⟨k,p,f,v,l⟩,pu,u,s,hn,hs,hf,hw,hx=>by
  have e:=Po.tot_mk k p f v l
  obtain ⟨hsh,hfl⟩:=Po.fits_iff.1 hf
  have hz:Pd.size p≤4611686018427387904:=by omega
  have hl4:∀ y∈l,Po.tot y≤4611686018427387904:=fun y hy=>by have:=Po.tot_lt (k:=k) (q:=p) (f:=f) (v:=v) hy;omega
  have hlt:∀ y∈l,Po.tot y≤n:=fun y hy=>by have:=Po.tot_lt (k:=k) (q:=p) (f:=f) (v:=v) hy;omega
  rcases hsh with ⟨rfl,_⟩ | ⟨rfl,_⟩ | ⟨rfl | rfl,_,_,hl1,hl2⟩ | ⟨rfl,_,_,hl⟩
  ·exact dK (fI F sw 1 f v p l pu u s (.inl rfl) hz hx)
  ·exact dK (fI F sw 2 f v p l pu u s (.inr rfl) hz hx)
  ·have hq:=Po.seq_parts sw 0 hf hw s
   exact lJ F sw f v p l pu u s hz hl2 hf hw hx fun i hi G pw w t hat=>cL sw n G l[i] pw w t (hlt _ (List.getElem_mem hi)) (hl4 _ (List.getElem_mem hi)) (hfl _ (List.getElem_mem hi)) (hq.2 i hi).1 hat
  ·have hq:=Po.uni_parts sw hf hw s
   exact lI F sw f v p l pu u s hz hl2 hf hw hx fun i hi G pw w t hat=>cL sw n G l[i] pw w t (hlt _ (List.getElem_mem hi)) (hl4 _ (List.getElem_mem hi)) (hfl _ (List.getElem_mem hi)) (hq.2 i hi).1 hat
  ·match l,hl with
   | [a,b],_ =>
    have hq:=Po.if_parts hw
    exact lH F sw f v p a b pu u s hz hx (fun pw w hat=>cL sw n F a pw w s (hlt a (by simp)) (hl4 a (by simp)) (hfl a (by simp)) hq.1 hat) (fun pw w hat=>cL sw n F b pw w s (hlt b (by simp)) (hl4 b (by simp)) (hfl b (by simp)) hq.2 hat)
end Go.Proofs.YtmehinfgdcmmjaaGreatDoor
