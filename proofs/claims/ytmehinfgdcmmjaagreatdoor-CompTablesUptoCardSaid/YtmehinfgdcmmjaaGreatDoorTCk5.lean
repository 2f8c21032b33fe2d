/- A part of the proof. -/
import Derived.Test.YtmehinfgdcmmjaaGreatDoorTJ18
namespace Go.Proofs.YtmehinfgdcmmjaaGreatDoor
open Go.Sx
set_option maxRecDepth 20000
set_option linter.unusedSimpArgs false
set_option linter.unusedVariables false
set_option maxHeartbeats 4000000
namespace Pd
theorem fold_neg {k f v out d:Int} {L:List T} {ps:List (T × Value)} (h:∀ x∈L,¬ x.k=d) (he:ps.map (·.1)=L.filter (fun x=>!decide (x.k=out))):fold k f v out d L=match ps.map (·.1) with
  | []=>.mk out 0 0 []
  | [x]=>x
  | x::y::r=>.mk k f v (x::y::r):=by
 unfold fold
 have:¬ (L.any fun x=>decide (x.k=d))=true:=fun hh=>by
  obtain ⟨y,hy,e⟩:=any_k hh
  exact h y hy e
 rw [if_neg this,he]
 rfl
theorem fold_one {k f v out d:Int} {L:List T} {y:T} (hy:y∈L) (hk:y.k=d):fold k f v out d L = .mk d 0 0 []:=by
 unfold fold
 rw [if_pos (List.any_eq_true.2 ⟨y,hy,decide_eq_true hk⟩)]
end Pd
theorem lM (F:Heap) (l:List Pd.T) (u:Value) (sw:Int) (hn:l.length≤8) (hu:Pd.Row F u l) (hfl:∀ x∈l,Pd.fits x=true)
  (ih:∀ G,∀ x∈l,∀ w,Pd.Row G w x.l→Qz Tryz.prog 116 [.agg (Pd.cs x w),.int .i64 sw] [hpB G] fun r m=>Pd.Lays G (Pd.cut sw x) r m) :
  Qz Tryz.prog 116 [.agg [.int .i64 5,.int .i64 0,.int .i64 0,.hs u l.length],.int .i64 sw] [hpB F] fun r m=>Pd.Out F 24 (Pd.fold 5 0 0 1 2 (l.map (Pd.cut sw))) r m:=by
 have hok:=hu.ok
 have hff:∀ x∈l,Pd.fits (Pd.cut sw x)=true:=fun x hx=>Pd.cut_fits sw x (hfl x hx)
 refine aB Tryz.func116 rfl (by decide) ?_
 repeat' first|(refine sxZ ?_;try clear hK K)|refine sxW ?_ ?_<;>intro _|(intro K hK _;conv=>whnf)
 refine aE (α:=Heap × Value × List (Pd.T × Value) × Nat) (fun (G,w,ps,i)=>F.le G∧i≤l.length∧ps.length≤i∧(∀ x∈(l.take i).map (Pd.cut sw),¬ x.k=2)∧ps.map (·.1)=((l.take i).map (Pd.cut sw)).filter (fun x=>!decide (x.k=1))∧∀ p∈ps,Pd.Row G p.2 p.1.l) (fun (G,w,ps,i)=>[.k,.k,.k,.k,.k,.k,.k,.k,.set (.sl 3 w ps.length),.set (.int .i64 i),.d,.k,.k,.k,.k,.k,.k,.k,.k,.k,.k,.k,.k,.k,.k,.k,.k,.k,.k,.k,.k,.k,.k,.k,.k,.k,.k,.k,.k,.k,.k,.k,.k,.k,.k,.k,.k,.k,.k,.k,.k,.k,.k,.k,.k,.k,.d,.d,.d,.d,.d,.d,.d,.d,.d,.d,.d,.d,.d,.d,.d,.d,.d,.d,.d,.d,.d,.d,.d,.d,.d,.d,.d,.k,.k,.k,.k,.k,.k,.k,.k,.k,.k,.k,.k,.k,.k,.k])
  (fun (G,w,ps,i)=>[.set (hpB G),.k,.k,.set ⟨addrOf w,Pd.psC ps,.row w 24 4 ps.length⟩]) (fun (G,w,ps,i)=>l.length - i) (F,.slice none 0 0,[],0) ⟨F.le_refl,Nat.zero_le _,Nat.le_refl _,fun x hx=>by simp at hx,rfl,fun p hp=>by simp at hp⟩ ?_ ((Qw.nilRow _ 24 4).trans (Qw.congr rfl)) ?_
 ·exact aD
 (intro ⟨G,w,ps,i⟩ ⟨hle,hil,hpi,hno,hmap,hall⟩;intro K hK;(conv=>whnf);refine hK _ _ ?_;clear hK K)
 dsimp only
 generalize hk:ps.length=t at *
 by_cases hlt:i<l.length
 ·have hx:l[i]?=some l[i]:=List.getElem?_eq_getElem hlt
  obtain ⟨A,cap,hA,c0,c1,c2,c3⟩:=(Pd.Row.mono hle hu).get hx
  have hmem:=List.mem_of_getElem? hx
  have c:=ih G _ hmem _ hA
  have hfy:=hff _ hmem
  have hym:Pd.cut sw l[i]∈l.map (Pd.cut sw):=List.mem_map_of_mem hmem
  have hnx:(l.take (i+1)).map (Pd.cut sw)=(l.take i).map (Pd.cut sw)++[Pd.cut sw l[i]]:=by rw [List.take_add_one,hx,List.map_append];rfl
  clear ih hff
  generalize Pd.cut sw l[i]=y at *
  generalize l[i]=x at *
  have hpl:=Pd.psC_len ps
  have hpn:=Pd.psC_next ps
  generalize hpc:Pd.psC ps=pc at *
  obtain ⟨xk,xf,xv,xl⟩:=x
  have h12:=fun h=>Pd.fits_12 hfy h
  by_cases hone:y.k=2
  ·have hX:=Pd.fold_one (k:=5) (f:=0) (v:=0) (out:=1) hym hone
   have hY:=h12 (by omega)
   rw [hone] at hY
   rw [hX]
   subst hY
   simp only [Pd.Lays,Pd.cs,Pd.T.k,Pd.T.f,Pd.T.v,Pd.T.l] at c c0 c1 c2 c3 hA
   repeat' first|(intro K hK;(with_reducible refine gC ?_);(refine cN [0] c ?_;rintro _ _ ⟨G',w',hle2,hrow,rfl,rfl⟩;refine cR ?_))|(refine sxO ?_;try clear hK K)|refine sxW ?_ ?_<;>intro _|refine sxV ?_ ?_|(intro K hK _;conv=>whnf)
   all_goals exact .inr ⟨G',w',hle.trans hle2,hrow,rfl,Qw.pre 1 rfl⟩
  have hno2:∀ x∈(l.take (i+1)).map (Pd.cut sw),¬ x.k=2:=fun x hx=>by
   rw [hnx] at hx
   rcases List.mem_append.1 hx with hx | hx
   ·exact hno x hx
   ·rw [List.mem_singleton.1 hx];exact hone
  by_cases hnone:y.k=1
  ·have hm2:ps.map (·.1)=((l.take (i+1)).map (Pd.cut sw)).filter (fun x=>!decide (x.k=1)):=by
    rw [hnx,List.filter_append,← hmap,List.filter_cons,if_neg (by simp [hnone])];simp
   clear hnx hym h12 hfy
   obtain ⟨yk,yf,yv,yl⟩:=y
   have hnone:yk=1:=hnone
   subst hnone
   clear hone
   simp only [Pd.Lays,Pd.cs,Pd.T.k,Pd.T.f,Pd.T.v,Pd.T.l] at c c0 c1 c2 c3 hA
   repeat' first|(intro K hK;(with_reducible refine gC ?_);(refine cN [0] c ?_;rintro _ _ ⟨G',w',hle2,hrow,rfl,rfl⟩;refine cR ?_))|(refine sxO ?_;try clear hK K)|refine sxW ?_ ?_<;>intro _|refine sxV ?_ ?_|(intro K hK _;conv=>whnf)
   all_goals
    refine aC (G',w,ps,i+1) ⟨hle.trans hle2,hlt,(show ps.length≤i+1 by omega),hno2,hm2,fun p hp=>Pd.Row.mono hle2 (hall p hp)⟩ (show l.length - (i+1)<l.length - i by omega) ?_ (Qw.pre 4 (by simp only [hk,hpc];rfl))
    simp only [hk]
    exact aD
  ·have hm2:∀ w':Value,(ps++[(y,w')]).map (·.1)=((l.take (i+1)).map (Pd.cut sw)).filter (fun x=>!decide (x.k=1)):=fun w'=>by
    rw [hnx,List.filter_append,← hmap,List.filter_cons,if_pos (by simp [hnone])];simp
   clear hnx hym h12 hfy
   obtain ⟨yk,yf,yv,yl⟩:=y
   have hone:¬ yk=2:=hone
   have hnone:¬ yk=1:=hnone
   simp only [Pd.Lays,Pd.cs,Pd.T.k,Pd.T.f,Pd.T.v,Pd.T.l] at c c0 c1 c2 c3 hA
   repeat' first|(intro K hK;(with_reducible refine gC ?_);(refine cN [0] c ?_;rintro _ _ ⟨G',w',hle2,hrow,rfl,rfl⟩;refine cR ?_))|(refine sxO ?_;try clear hK K)|refine sxW ?_ ?_<;>intro _|refine sxV ?_ ?_|(intro K hK _;conv=>whnf)
   all_goals
    rename_i v9
    refine aC (G',v9,ps++[(⟨yk,yf,yv,yl⟩,w')],i+1) ⟨hle.trans hle2,hlt,by rw [List.length_append,hk];show t+1≤i+1;omega,hno2,hm2 w',fun x hx=>?_⟩ (show l.length - (i+1)<l.length - i by omega) ?_ (Qw.pre 4 ?_)
    ·rcases List.mem_append.1 hx with hx | hx
     ·exact Pd.Row.mono hle2 (hall x hx)
     ·rw [List.mem_singleton.1 hx];exact hrow
    ·simp only [List.length_append,hk]
     exact aD
    ·simp only [autoM,List.take,List.length_append,hk,hpn]
     rw [show t+[((⟨yk,yf,yv,yl⟩:Pd.T),w')].length=t+1 from rfl]
     rfl
 ·have hkl:i=l.length:=by omega
  subst hkl
  rw [List.take_length] at hmap hno
  rw [Pd.fold_neg hno hmap]
  clear ih hff hno hmap hfl
  match ps,hk with
  | [],hk =>
   subst hk
   repeat' first|(refine sxZ ?_;try clear hK K)|refine sxW ?_ ?_<;>intro _|(intro K hK _;conv=>whnf)
   all_goals exact .inr ⟨G,.slice none 0 0,hle,⟨SlOk.nil,fun k x hx=>by simp [Pd.T.l] at hx⟩,rfl,Qw.pre 1 rfl⟩
  | [(⟨xk,xf,xv,xl⟩,u')],hk =>
   subst hk
   have hq:[((⟨xk,xf,xv,xl⟩:Pd.T),u')][0]?=some (⟨xk,xf,xv,xl⟩,u'):=rfl
   repeat' first|((try intro K hK);(refine Pd.cellsK_ps hq ?_;conv=>whnf))|(refine sxZ ?_;try clear hK K)|refine sxW ?_ ?_<;>intro _|(intro K hK _;conv=>whnf)|(intro _;conv=>whnf)
   all_goals exact .inr ⟨G,u',hle,hall (⟨xk,xf,xv,xl⟩,u') (by simp),rfl,Qw.pre 1 rfl⟩
  | x::y::r,hk =>
   have hlen:(x::y::r).length=r.length+2:=rfl
   have hX:∀ (g:List Pd.T→Pd.T),(match (x::y::r).map (·.1) with | []=>Pd.T.mk 1 0 0 [] | [x]=>x | x::y::r=>Pd.T.mk 5 0 0 (x::y::r))=Pd.T.mk 5 0 0 ((x::y::r).map (·.1)):=fun _=>rfl
   rw [show (match (x::y::r).map (·.1) with | []=>Pd.T.mk 1 0 0 [] | [x]=>x | x::y::r=>Pd.T.mk 5 0 0 (x::y::r))=Pd.T.mk 5 0 0 ((x::y::r).map (·.1)) from rfl]
   generalize hks:x::y::r=ks at *
   repeat' first|(refine sxZ ?_;try clear hK K)|refine sxW ?_ ?_<;>intro _|(intro K hK _;conv=>whnf)
   all_goals exact .inl ⟨G,w,ks,hle,rfl,hall,by simp only [Pd.cs,Pd.T.k,Pd.T.f,Pd.T.v,Pd.T.l,List.length_map,hk];rfl,by rw [hk];exact Qw.pick [0,3] (by decide) rfl⟩
theorem lL (F:Heap) (l:List Pd.T) (u:Value) (sw:Int) (hn:l.length≤8) (hu:Pd.Row F u l) (hfl:∀ x∈l,Pd.fits x=true)
  (ih:∀ G,∀ x∈l,∀ w,Pd.Row G w x.l→Qz Tryz.prog 116 [.agg (Pd.cs x w),.int .i64 sw] [hpB G] fun r m=>Pd.Lays G (Pd.cut sw x) r m) :
  Qz Tryz.prog 116 [.agg [.int .i64 6,.int .i64 0,.int .i64 0,.hs u l.length],.int .i64 sw] [hpB F] fun r m=>Pd.Out F 24 (Pd.fold 6 0 0 2 1 (l.map (Pd.cut sw))) r m:=by
 have hok:=hu.ok
 have hff:∀ x∈l,Pd.fits (Pd.cut sw x)=true:=fun x hx=>Pd.cut_fits sw x (hfl x hx)
 refine aB Tryz.func116 rfl (by decide) ?_
 repeat' first|(refine sxZ ?_;try clear hK K)|refine sxW ?_ ?_<;>intro _|(intro K hK _;conv=>whnf)
 refine aE (α:=Heap × Value × List (Pd.T × Value) × Nat) (fun (G,w,ps,i)=>F.le G∧i≤l.length∧ps.length≤i∧(∀ x∈(l.take i).map (Pd.cut sw),¬ x.k=1)∧ps.map (·.1)=((l.take i).map (Pd.cut sw)).filter (fun x=>!decide (x.k=2))∧∀ p∈ps,Pd.Row G p.2 p.1.l) (fun (G,w,ps,i)=>[.k,.k,.k,.k,.k,.k,.k,.k,.set (.sl 3 w ps.length),.set (.int .i64 i),.d,.k,.k,.k,.k,.k,.k,.k,.k,.k,.k,.k,.k,.k,.k,.k,.k,.k,.k,.k,.k,.k,.k,.k,.k,.k,.k,.k,.k,.k,.k,.k,.k,.k,.k,.k,.k,.k,.k,.k,.k,.k,.k,.k,.k,.k,.d,.d,.d,.d,.d,.d,.d,.d,.d,.d,.d,.d,.d,.d,.d,.d,.d,.d,.d,.d,.d,.d,.d,.d,.d,.d,.d,.k,.k,.k,.k,.k,.k,.k,.k,.k,.k,.k,.k,.k,.k,.k])
  (fun (G,w,ps,i)=>[.set (hpB G),.k,.k,.set ⟨addrOf w,Pd.psC ps,.row w 24 4 ps.length⟩]) (fun (G,w,ps,i)=>l.length - i) (F,.slice none 0 0,[],0) ⟨F.le_refl,Nat.zero_le _,Nat.le_refl _,fun x hx=>by simp at hx,rfl,fun p hp=>by simp at hp⟩ ?_ ((Qw.nilRow _ 24 4).trans (Qw.congr rfl)) ?_
 ·exact aD
 (intro ⟨G,w,ps,i⟩ ⟨hle,hil,hpi,hno,hmap,hall⟩;intro K hK;(conv=>whnf);refine hK _ _ ?_;clear hK K)
 dsimp only
 generalize hk:ps.length=t at *
 by_cases hlt:i<l.length
 ·have hx:l[i]?=some l[i]:=List.getElem?_eq_getElem hlt
  obtain ⟨A,cap,hA,c0,c1,c2,c3⟩:=(Pd.Row.mono hle hu).get hx
  have hmem:=List.mem_of_getElem? hx
  have c:=ih G _ hmem _ hA
  have hfy:=hff _ hmem
  have hym:Pd.cut sw l[i]∈l.map (Pd.cut sw):=List.mem_map_of_mem hmem
  have hnx:(l.take (i+1)).map (Pd.cut sw)=(l.take i).map (Pd.cut sw)++[Pd.cut sw l[i]]:=by rw [List.take_add_one,hx,List.map_append];rfl
  clear ih hff
  generalize Pd.cut sw l[i]=y at *
  generalize l[i]=x at *
  have hpl:=Pd.psC_len ps
  have hpn:=Pd.psC_next ps
  generalize hpc:Pd.psC ps=pc at *
  obtain ⟨xk,xf,xv,xl⟩:=x
  have h12:=fun h=>Pd.fits_12 hfy h
  by_cases hone:y.k=1
  ·have hX:=Pd.fold_one (k:=6) (f:=0) (v:=0) (out:=2) hym hone
   have hY:=h12 (by omega)
   rw [hone] at hY
   rw [hX]
   subst hY
   simp only [Pd.Lays,Pd.cs,Pd.T.k,Pd.T.f,Pd.T.v,Pd.T.l] at c c0 c1 c2 c3 hA
   repeat' first|(intro K hK;(with_reducible refine gC ?_);(refine cN [0] c ?_;rintro _ _ ⟨G',w',hle2,hrow,rfl,rfl⟩;refine cR ?_))|(refine sxO ?_;try clear hK K)|refine sxW ?_ ?_<;>intro _|refine sxV ?_ ?_|(intro K hK _;conv=>whnf)
   all_goals exact .inr ⟨G',w',hle.trans hle2,hrow,rfl,Qw.pre 1 rfl⟩
  have hno2:∀ x∈(l.take (i+1)).map (Pd.cut sw),¬ x.k=1:=fun x hx=>by
   rw [hnx] at hx
   rcases List.mem_append.1 hx with hx | hx
   ·exact hno x hx
   ·rw [List.mem_singleton.1 hx];exact hone
  by_cases hnone:y.k=2
  ·have hm2:ps.map (·.1)=((l.take (i+1)).map (Pd.cut sw)).filter (fun x=>!decide (x.k=2)):=by
    rw [hnx,List.filter_append,← hmap,List.filter_cons,if_neg (by simp [hnone])];simp
   clear hnx hym h12 hfy
   obtain ⟨yk,yf,yv,yl⟩:=y
   have hnone:yk=2:=hnone
   subst hnone
   clear hone
   simp only [Pd.Lays,Pd.cs,Pd.T.k,Pd.T.f,Pd.T.v,Pd.T.l] at c c0 c1 c2 c3 hA
   repeat' first|(intro K hK;(with_reducible refine gC ?_);(refine cN [0] c ?_;rintro _ _ ⟨G',w',hle2,hrow,rfl,rfl⟩;refine cR ?_))|(refine sxO ?_;try clear hK K)|refine sxW ?_ ?_<;>intro _|refine sxV ?_ ?_|(intro K hK _;conv=>whnf)
   all_goals
    refine aC (G',w,ps,i+1) ⟨hle.trans hle2,hlt,(show ps.length≤i+1 by omega),hno2,hm2,fun p hp=>Pd.Row.mono hle2 (hall p hp)⟩ (show l.length - (i+1)<l.length - i by omega) ?_ (Qw.pre 4 (by simp only [hk,hpc];rfl))
    simp only [hk]
    exact aD
  ·have hm2:∀ w':Value,(ps++[(y,w')]).map (·.1)=((l.take (i+1)).map (Pd.cut sw)).filter (fun x=>!decide (x.k=2)):=fun w'=>by
    rw [hnx,List.filter_append,← hmap,List.filter_cons,if_pos (by simp [hnone])];simp
   clear hnx hym h12 hfy
   obtain ⟨yk,yf,yv,yl⟩:=y
   have hone:¬ yk=1:=hone
   have hnone:¬ yk=2:=hnone
   simp only [Pd.Lays,Pd.cs,Pd.T.k,Pd.T.f,Pd.T.v,Pd.T.l] at c c0 c1 c2 c3 hA
   repeat' first|(intro K hK;(with_reducible refine gC ?_);(refine cN [0] c ?_;rintro _ _ ⟨G',w',hle2,hrow,rfl,rfl⟩;refine cR ?_))|(refine sxO ?_;try clear hK K)|refine sxW ?_ ?_<;>intro _|refine sxV ?_ ?_|(intro K hK _;conv=>whnf)
   all_goals
    rename_i v9
    refine aC (G',v9,ps++[(⟨yk,yf,yv,yl⟩,w')],i+1) ⟨hle.trans hle2,hlt,by rw [List.length_append,hk];show t+1≤i+1;omega,hno2,hm2 w',fun x hx=>?_⟩ (show l.length - (i+1)<l.length - i by omega) ?_ (Qw.pre 4 ?_)
    ·rcases List.mem_append.1 hx with hx | hx
     ·exact Pd.Row.mono hle2 (hall x hx)
     ·rw [List.mem_singleton.1 hx];exact hrow
    ·simp only [List.length_append,hk]
     exact aD
    ·simp only [autoM,List.take,List.length_append,hk,hpn]
     rw [show t+[((⟨yk,yf,yv,yl⟩:Pd.T),w')].length=t+1 from rfl]
     rfl
 ·have hkl:i=l.length:=by omega
  subst hkl
  rw [List.take_length] at hmap hno
  rw [Pd.fold_neg hno hmap]
  clear ih hff hno hmap hfl
  match ps,hk with
  | [],hk =>
   subst hk
   repeat' first|(refine sxZ ?_;try clear hK K)|refine sxW ?_ ?_<;>intro _|(intro K hK _;conv=>whnf)
   all_goals exact .inr ⟨G,.slice none 0 0,hle,⟨SlOk.nil,fun k x hx=>by simp [Pd.T.l] at hx⟩,rfl,Qw.pre 1 rfl⟩
  | [(⟨xk,xf,xv,xl⟩,u')],hk =>
   subst hk
   have hq:[((⟨xk,xf,xv,xl⟩:Pd.T),u')][0]?=some (⟨xk,xf,xv,xl⟩,u'):=rfl
   repeat' first|((try intro K hK);(refine Pd.cellsK_ps hq ?_;conv=>whnf))|(refine sxZ ?_;try clear hK K)|refine sxW ?_ ?_<;>intro _|(intro K hK _;conv=>whnf)|(intro _;conv=>whnf)
   all_goals exact .inr ⟨G,u',hle,hall (⟨xk,xf,xv,xl⟩,u') (by simp),rfl,Qw.pre 1 rfl⟩
  | x::y::r,hk =>
   have hlen:(x::y::r).length=r.length+2:=rfl
   have hX:∀ (g:List Pd.T→Pd.T),(match (x::y::r).map (·.1) with | []=>Pd.T.mk 2 0 0 [] | [x]=>x | x::y::r=>Pd.T.mk 6 0 0 (x::y::r))=Pd.T.mk 6 0 0 ((x::y::r).map (·.1)):=fun _=>rfl
   rw [show (match (x::y::r).map (·.1) with | []=>Pd.T.mk 2 0 0 [] | [x]=>x | x::y::r=>Pd.T.mk 6 0 0 (x::y::r))=Pd.T.mk 6 0 0 ((x::y::r).map (·.1)) from rfl]
   generalize hks:x::y::r=ks at *
   repeat' first|(refine sxZ ?_;try clear hK K)|refine sxW ?_ ?_<;>intro _|(intro K hK _;conv=>whnf)
   all_goals exact .inl ⟨G,w,ks,hle,rfl,hall,by simp only [Pd.cs,Pd.T.k,Pd.T.f,Pd.T.v,Pd.T.l,List.length_map,hk];rfl,by rw [hk];exact Qw.pick [0,3] (by decide) rfl⟩
theorem eK:∀ (n:Nat) (F:Heap) (p:Pd.T) (u:Value) (sw:Int),Pd.size p≤n→Pd.size p≤1000000000000→Pd.fits p=true→Pd.Row F u p.l →
  Qz Tryz.prog 116 [.agg (Pd.cs p u),.int .i64 sw] [hpB F] fun r m=>Pd.Lays F (Pd.cut sw p) r m
 | 0,F,p,u,sw,hn,_,_,_=>absurd (Pd.size_pos p) (by omega)
 | n+1,F,⟨k,f,v,l⟩,u,sw,hn,hs,hf,hu=>by
  refine Pd.out_know (t:=24) ?_
  have hu:Pd.Row F u l:=hu
  have hok:=hu.ok
  obtain ⟨hsh,hfl⟩:=Pd.fits_mk hf
  have ih:∀ G,∀ x∈l,∀ w,Pd.Row G w x.l→Qz Tryz.prog 116 [.agg (Pd.cs x w),.int .i64 sw] [hpB G] fun r m=>Pd.Lays G (Pd.cut sw x) r m:=fun G x hx w hw=>eK n G x w sw (by have:=Pd.size_lt (k:=k) (f:=f) (v:=v) hx;omega) (by have:=Pd.size_lt (k:=k) (f:=f) (v:=v) hx;omega) (hfl x hx) hw
  have hff:∀ x∈l,Pd.fits (Pd.cut sw x)=true:=fun x hx=>Pd.cut_fits sw x (hfl x hx)
  rw [pd_cs]
  by_cases h5:k=5
  ·subst h5
   obtain ⟨rfl,rfl,hl2,hl8⟩:f=0∧v=0∧2≤l.length∧l.length≤8:=by omega
   rw [Pd.cut_5]
   exact lM F l u sw hl8 hu hfl ih
  by_cases h6:k=6
  ·subst h6
   obtain ⟨rfl,rfl,hl2,hl8⟩:f=0∧v=0∧2≤l.length∧l.length≤8:=by omega
   rw [Pd.cut_6]
   exact lL F l u sw hl8 hu hfl ih
  by_cases h4:k=4
  ·subst h4
   obtain ⟨rfl,rfl,hl1⟩:f=0∧v=0∧l.length=1:=by omega
   match l,hl1 with
   | [q],_ =>
    rw [Pd.cut_4]
    obtain ⟨A,cap,hA,c0,c1,c2,c3⟩:=hu.get (i:=0) (x:=q) rfl
    have c:=ih F q (by simp) _ hA
    have hfy:=hff q (by simp)
    clear ih hff hsh
    generalize Pd.cut sw q=y at *
    have hyk:=Pd.fits_k hfy
    obtain ⟨yk,yf,yv,yl⟩:=y
    obtain ⟨xk,xf,xv,xl⟩:=q
    simp only [Pd.Lays,Pd.cs,Pd.T.k,Pd.T.f,Pd.T.v,Pd.T.l] at c c0 c1 c2 c3 hA hyk
    refine aB Tryz.func116 rfl (by decide) ?_
    by_cases h1:yk=1
    ·subst h1
     rw [if_pos (show (Pd.T.mk 1 yf yv yl).k≤2 from (by decide:(1:Int)≤2)),if_neg (show ¬ (Pd.T.mk 1 yf yv yl).k=2 from (by decide:¬ (1:Int)=2))]
     repeat' first|(intro K hK;(with_reducible refine gC ?_);(refine cN [0] c ?_;rintro _ _ ⟨G',w',hle2,hrow,rfl,rfl⟩;refine cR ?_))|(refine sxO ?_;try clear hK K)|refine sxW ?_ ?_<;>intro _|refine sxV ?_ ?_|(intro K hK _;conv=>whnf)
     all_goals exact .inr ⟨G',.slice none 0 0,hle2,⟨SlOk.nil,fun k x hx=>by simp [Pd.T.l] at hx⟩,rfl,Qw.pre 1 rfl⟩
    by_cases h2:yk=2
    ·subst h2
     rw [if_pos (show (Pd.T.mk 2 yf yv yl).k≤2 from (by decide:(2:Int)≤2)),if_pos (show (Pd.T.mk 2 yf yv yl).k=2 from rfl)]
     repeat' first|(intro K hK;(with_reducible refine gC ?_);(refine cN [0] c ?_;rintro _ _ ⟨G',w',hle2,hrow,rfl,rfl⟩;refine cR ?_))|(refine sxO ?_;try clear hK K)|refine sxW ?_ ?_<;>intro _|refine sxV ?_ ?_|(intro K hK _;conv=>whnf)
     all_goals exact .inr ⟨G',.slice none 0 0,hle2,⟨SlOk.nil,fun k x hx=>by simp [Pd.T.l] at hx⟩,rfl,Qw.pre 1 rfl⟩
    rw [if_neg (show ¬ (Pd.T.mk yk yf yv yl).k≤2 from by show ¬ yk≤2;omega)]
    repeat' first|(intro K hK;(with_reducible refine gC ?_);(refine cN [0] c ?_;rintro _ _ ⟨G',w',hle2,hrow,rfl,rfl⟩;refine cR ?_))|(refine sxO ?_;try clear hK K)|refine sxW ?_ ?_<;>intro _|refine sxV ?_ ?_|(intro K hK _;conv=>whnf)
    all_goals exact .inl ⟨G',_,[(⟨yk,yf,yv,yl⟩,w')],hle2,rfl,fun p hp=>by rw [List.mem_singleton.1 hp];exact hrow,rfl,Qw.pick [0,4] (by decide) rfl⟩
  by_cases h35:k=3∧f=5
  ·obtain ⟨rfl,rfl⟩:=h35
   rw [Pd.cut_sw]
   refine aB Tryz.func116 rfl (by decide) ?_
   by_cases hv:v=sw
   ·rw [if_pos hv]
    subst hv
    repeat' first|(refine sxZ ?_;try clear hK K)|refine sxW ?_ ?_<;>intro _|(intro K hK _;conv=>whnf)
    all_goals exact .inr ⟨F,.slice none 0 0,F.le_refl,⟨SlOk.nil,fun k x hx=>by simp [Pd.T.l] at hx⟩,rfl,Qw.pre 1 rfl⟩
   ·rw [if_neg hv]
    repeat' first|(refine sxZ ?_;try clear hK K)|refine sxW ?_ ?_<;>intro _|(intro K hK _;conv=>whnf)
    all_goals exact .inr ⟨F,.slice none 0 0,F.le_refl,⟨SlOk.nil,fun k x hx=>by simp [Pd.T.l] at hx⟩,rfl,Qw.pre 1 rfl⟩
  ·have hl0:l=[]:=List.eq_nil_of_length_eq_zero (by omega)
   have hk3:k<4:=by omega
   subst hl0
   rw [Pd.cut_no _ _ _ _ h35 (by omega)]
   clear ih hff hsh
   refine aB Tryz.func116 rfl (by decide) ?_
   repeat' first|(refine sxZ ?_;try clear hK K)|refine sxW ?_ ?_<;>intro _|(intro K hK _;conv=>whnf)
   all_goals exact .inr ⟨F,u,F.le_refl,hu,rfl,Qw.pre 1 rfl⟩
end Go.Proofs.YtmehinfgdcmmjaaGreatDoor
