/- A part of the proof. -/
import Derived.Test.YtmehinfgdcmmjaaGreatDoorTJ4
import Derived.Lib.ItoaLen
import Derived.Test.YtmehinfgdcmmjaaGreatDoorTJ1
import Derived.Test.YtmehinfgdcmmjaaGreatDoorTJ13
namespace Go.Proofs.YtmehinfgdcmmjaaGreatDoor
open Go.Sx
set_option maxRecDepth 20000
set_option linter.unusedVariables false
namespace Tr
open Po (S)
structure C where
  s:S
  out:List S
deriving DecidableEq
def gt (f:Int) (s:S):Int:=if f=4 then s.port else if f=0 then s.p0 else if f=1 then s.p1 else if f=2 then s.p2 else s.p3
def withK (f v:Int) (s:S):S:=if f=4 then { s with port:=v } else if f=0 then { s with p0:=v } else if f=1 then { s with p1:=v } else if f=2 then { s with p2:=v } else { s with p3:=v }
abbrev ok (f:Int):Prop:=0≤f∧f≤4
theorem gt_same (f v:Int) (s:S):gt f (withK f v s)=v:=by
  unfold gt withK
  by_cases h4:f=4
  · simp [h4]
  by_cases h0:f=0
  · simp [h0]
  by_cases h1:f=1
  · simp [h1]
  by_cases h2:f=2
  · simp [h2]
  · simp [h4,h0,h1,h2]
theorem gt_other {f g:Int} (v:Int) (s:S) (hf:ok f) (hg:ok g) (h:g≠f):gt g (withK f v s)=gt g s:=by
  have h1:f=0∨f=1∨f=2∨f=3∨f=4:=by omega
  have h2:g=0∨g=1∨g=2∨g=3∨g=4:=by omega
  rcases h1 with rfl | rfl | rfl | rfl | rfl<;>rcases h2 with rfl | rfl | rfl | rfl | rfl<;>first | exact absurd rfl h | rfl
theorem S_ext {a b:S} (h:∀ f,ok f→gt f a=gt f b):a=b:=by
  have h0:=h 0 (by decide)
  have h1:=h 1 (by decide)
  have h2:=h 2 (by decide)
  have h3:=h 3 (by decide)
  have h4:=h 4 (by decide)
  obtain ⟨a0,a1,a2,a3,a4⟩:=a
  obtain ⟨b0,b1,b2,b3,b4⟩:=b
  simp only [gt] at h0 h1 h2 h3 h4
  simp at h0 h1 h2 h3 h4
  simp only [S.mk.injEq]
  exact ⟨h4,h0,h1,h2,h3⟩
def came (n k:Int):Int:=if n=k then -1 else n
def cameS (s t:S):S:=⟨t.port,came t.p0 s.p0,came t.p1 s.p1,came t.p2 s.p2,came t.p3 s.p3⟩
def outs (sw:Int) (y:Po.T) (s:S):List S:=Po.both [] ((Po.runs sw y s).map (cameS s))
def free (f:Int) (c:C):C:=⟨withK f (-1) c.s,c.out⟩
def alike (f:Int) (a b:List C):Bool:=decide (a.map (free f)=b.map (free f))
def some_ (f:Int) (other l:List C):List C:=if alike f l other=true then [] else l
def cases (sw:Int) (y:Po.T):List Int→S→List C
  | [],s=>[⟨s,outs sw y s⟩]
  | f::rest,s=>((Po.values f y).flatMap fun v=>some_ f (cases sw y rest s) (cases sw y rest (withK f v s)))++cases sw y rest s
def order:List Int:=[4,0,1,2,3]
def start:S:=⟨-1, -1, -1, -1, -1⟩
def all (sw:Int) (x:Po.T):List C:=cases sw (Po.spec sw x) order start
def cnt (y:Po.T):List Int→Nat
  | []=>1
  | f::rest=>((Po.values f y).length+1)*cnt y rest
theorem some_len (f:Int) (o l:List C):(some_ f o l).length≤l.length:=by
  unfold some_;split<;>simp
theorem flat_len {α β:Type} (g:α→List β) (n:Nat):∀ l:List α,(∀ x∈l,(g x).length≤n)→(l.flatMap g).length≤l.length*n
  | [],_=>by simp
  | x::l,h=>by
    have h1:=flat_len g n l fun y hy=>h y (by simp [hy])
    have h2:=h x (by simp)
    rw [List.flatMap_cons,List.length_append,List.length_cons,Nat.succ_mul]
    omega
theorem cases_len (sw:Int) (y:Po.T):∀ (fs:List Int) (s:S),(cases sw y fs s).length≤cnt y fs
  | [],s=>by simp [cases,cnt]
  | f::rest,s=>by
    rw [cases,cnt,List.length_append,Nat.succ_mul]
    have h1:=flat_len (fun v=>some_ f (cases sw y rest s) (cases sw y rest (withK f v s))) (cnt y rest) (Po.values f y) fun v _=>Nat.le_trans (some_len _ _ _) (cases_len sw y rest _)
    have h2:=cases_len sw y rest s
    omega
theorem cnt_pos (y:Po.T):∀ fs:List Int,1≤cnt y fs
  | []=>Nat.le_refl _
  | f::rest=>by
    have:=cnt_pos y rest
    rw [cnt]
    exact Nat.mul_pos (Nat.succ_pos _) this
theorem mem_cases {sw:Int} {y:Po.T} {f:Int} {rest:List Int} {s:S} {c:C} (h:c∈cases sw y (f::rest) s):(∃ v∈Po.values f y,c∈cases sw y rest (withK f v s))∨c∈cases sw y rest s:=by
  rw [cases,List.mem_append,List.mem_flatMap] at h
  rcases h with ⟨v,hv,h⟩ | h
  · unfold some_ at h
    split at h
    · cases h
    · exact .inl ⟨v,hv,h⟩
  · exact .inr h
theorem outs_rising (sw:Int) (y:Po.T) (s:S):Po.Rising (outs sw y s):=Po.both_rising _ List.Pairwise.nil
theorem outs_len (sw:Int) (y:Po.T) (s:S):(outs sw y s).length≤(Po.runs sw y s).length:=by
  have:=Po.both_len ((Po.runs sw y s).map (cameS s)) []
  unfold outs
  simpa using this
theorem cases_out_len (sw:Int) (y:Po.T) (n:Nat) (hn:∀ s,(Po.runs sw y s).length≤n):∀ (fs:List Int) (s:S),∀ c∈cases sw y fs s,c.out.length≤n
  | [],s,c,h=>by rw [cases,List.mem_singleton] at h;rw [h];exact Nat.le_trans (outs_len sw y s) (hn s)
  | f::rest,s,c,h=>by
    rcases mem_cases h with ⟨v,_,h⟩ | h
    iterate 2
      · exact cases_out_len sw y n hn rest _ c h
theorem mem_order {f:Int}:f∈order↔ok f:=by
  simp only [order,List.mem_cons,List.not_mem_nil,or_false]
  omega
end Tr
namespace Po
theorem mem_seq1 (sw:Int) (y:T) (l:List T) (out:List S) (t:S):t∈runsQ sw (y::l) out↔t∈runsQ sw l (thenS sw y out):=by rw [runsQ];exact Iff.rfl
theorem mem_runsQ (sw:Int) (t:S):∀ (l:List T) (out:List S),t∈runsQ sw l out↔∃ s∈out,t∈runsQ sw l [s]
  | [],out=>by simp [runsQ]
  | y::l,out=>by
    have e1:∀ o,runsQ sw (y::l) o=runsQ sw l (thenS sw y o):=fun o=>by rw [runsQ];rfl
    rw [e1,mem_runsQ sw t l]
    constructor
    · rintro ⟨u,hu,ht⟩
      obtain ⟨s,hs,hu⟩:=(mem_then sw y u out).1 hu
      exact ⟨s,hs,by rw [e1,mem_runsQ sw t l];exact ⟨u,(mem_then sw y u [s]).2 ⟨s,by simp,hu⟩,ht⟩⟩
    · rintro ⟨s,hs,ht⟩
      rw [e1,mem_runsQ sw t l] at ht
      obtain ⟨u,hu,ht⟩:=ht
      obtain ⟨s',hs',hu⟩:=(mem_then sw y u [s]).1 hu
      rw [List.mem_singleton.1 hs'] at hu
      exact ⟨u,(mem_then sw y u out).2 ⟨s,hs,hu⟩,ht⟩
theorem mem_Q0 (sw:Int) (s t:S):t∈runsQ sw [] [s]↔t=s:=by simp [runsQ]
theorem mem_Q1 (sw:Int) (y:T) (l:List T) (s t:S):t∈runsQ sw (y::l) [s]↔∃ u∈runs sw y s,t∈runsQ sw l [u]:=by
  rw [mem_seq1,mem_runsQ]
  constructor
  · rintro ⟨u,hu,ht⟩
    obtain ⟨s',hs',hu⟩:=(mem_then sw y u [s]).1 hu
    rw [List.mem_singleton.1 hs'] at hu
    exact ⟨u,hu,ht⟩
  · rintro ⟨u,hu,ht⟩
    exact ⟨u,(mem_then sw y u [s]).2 ⟨s,by simp,hu⟩,ht⟩
theorem ptop_top {f:Int} (h:0≤f∧f<4):ptop f=Pd.top f:=by
  unfold ptop Pd.top
  rw [if_neg (by omega:¬ (f=4∨f=5))]
end Po
namespace Tr
open Po (S)
theorem ok5 {f:Int} (h:ok f):f=0∨f=1∨f=2∨f=3∨f=4:=by omega
theorem gt_came {f:Int} (hf:ok f) (k u:S):gt f (cameS k u)=if f=4 then gt f u else came (gt f u) (gt f k):=by
  rcases ok5 hf with rfl | rfl | rfl | rfl | rfl<;>rfl
theorem put_with {f v:Int} (hf:ok f) (hv:0≤v∧v≤Pd.top f) (u:S):Po.put f v u=withK f v u:=by
  unfold Po.put withK
  by_cases h4:f=4
  · rw [if_pos h4,if_pos h4]
  · rw [if_neg h4,if_neg h4]
    have e:=Po.ptop_top (f:=f) (by omega)
    unfold Po.withS
    rw [e,if_pos ⟨by omega,hv⟩]
theorem pd_of {k:Int} {p:Pd.T} {a w:Int} {l:List Po.T} {V:Int→Int→Prop} (hV:∀ f v,ok f→v∈Po.vals f (.mk k p a w l)→V f v):(∀ f v,ok f→v∈Pd.vals f p→V f v)∧(∀ y∈l,∀ f v,ok f→v∈Po.vals f y→V f v):=by
  refine ⟨fun f v hf hv=>hV f v hf ?_,fun y hy f v hf hv=>hV f v hf ?_⟩
  · rw [Po.vals_mk,List.mem_append,List.mem_append,Pd.values_mem]
    exact .inr (.inl hv)
  · rw [Po.vals_mk,List.mem_append,List.mem_append,Po.mem_valsL]
    exact .inr (.inr ⟨y,hy,hv⟩)
theorem Q_keep (sw:Int) (V:Int→Int→Prop):∀ (l:List Po.T),(∀ y∈l,∀ u w,w∈Po.runs sw y u→∀ f,ok f→gt f w=gt f u∨V f (gt f w))→∀ u w,w∈Po.runsQ sw l [u]→∀ f,ok f→gt f w=gt f u∨V f (gt f w)
  | [],_,u,w,hw,f,hf=>by rw [(Po.mem_Q0 sw u w).1 hw];exact .inl rfl
  | y::l,h,u,w,hw,f,hf=>by
    obtain ⟨u',hu,hw⟩:=(Po.mem_Q1 sw y l u w).1 hw
    rcases Q_keep sw V l (fun z hz=>h z (by simp [hz])) u' w hw f hf with e | e
    · rw [e];exact h y (by simp) u u' hu f hf
    · exact .inr e
theorem runs_keep (sw:Int) (V:Int→Int→Prop):∀ (n:Nat) (x:Po.T),Po.tot x≤n→Po.fits x=true→(∀ f v,ok f→v∈Po.vals f x→V f v)→∀ u w,w∈Po.runs sw x u→∀ f,ok f→gt f w=gt f u∨V f (gt f w)
  | 0,x,hn,_,_=>absurd (Po.tot_pos x) (by omega)
  | n+1,⟨k,p,a,v,l⟩,hn,h,hV=>fun u w hw f hf=>by
    obtain ⟨hsh,hfl⟩:=Po.fits_iff.1 h
    have hV2:=(pd_of hV).2
    have ih:∀ y∈l,∀ u w,w∈Po.runs sw y u→∀ f,ok f→gt f w=gt f u∨V f (gt f w):=fun y hy=>runs_keep sw V n y (by have:=Po.tot_lt (k:=k) (q:=p) (f:=a) (v:=v) hy;omega) (hfl y hy) (hV2 y hy)
    rcases hsh with ⟨rfl,_,_,hl⟩ | ⟨rfl,rfl,ha,hv,hl⟩ | ⟨rfl | rfl,_,_,hl1,hl2⟩ | ⟨rfl,_,_,hl⟩
    · rw [Po.runs_mk,if_pos rfl] at hw
      split at hw
      · rw [List.mem_singleton.1 hw];exact .inl rfl
      · cases hw
    · rw [Po.runs_mk,if_neg (by decide),if_pos rfl,List.mem_singleton] at hw
      rw [hw,put_with ⟨ha.1,ha.2⟩ hv]
      by_cases e:f=a
      · subst e
        rw [gt_same]
        refine .inr (hV f v hf ?_)
        rw [Po.vals_mk,if_pos ⟨rfl,rfl⟩]
        simp
      · rw [gt_other v u ⟨ha.1,ha.2⟩ hf e];exact .inl rfl
    · rw [Po.runs_mk,if_neg (by decide),if_neg (by decide),if_pos rfl] at hw
      exact Q_keep sw V l ih u w hw f hf
    · rw [Po.runs_mk,if_neg (by decide),if_neg (by decide),if_neg (by decide),if_pos rfl,Po.mem_runsU] at hw
      rcases hw with hw | ⟨y,hy,hw⟩
      · cases hw
      · exact ih y hy u w hw f hf
    · match l,hl with
      | [b,c],_ =>
        have hR:Po.runs sw (.mk 5 p a v [b,c]) u=if Pd.hits (u.at_ sw) p=true then Po.runs sw b u else Po.runs sw c u:=by
          rw [Po.runs_mk,Po.runsA,Po.runsB,Po.runsA];simp
        rw [hR] at hw
        split at hw
        · exact ih b (by simp) u w hw f hf
        · exact ih c (by simp) u w hw f hf
theorem came_nodup (sw:Int) (y:Po.T) (hf:Po.fits y=true) (s:S):((Po.runs sw y s).map (cameS s)).Nodup:=by
  rw [List.Nodup,List.pairwise_map]
  have hkeep:=runs_keep sw (fun f v=>0≤v) _ y (Nat.le_refl _) hf (fun f v _ h=>(Po.vals_top f y hf v h).1) s
  refine List.Pairwise.imp_of_mem (fun {a b} ha hb hab e=>?_) (Po.runs_rising sw s _ y (Nat.le_refl _))
  have:a=b:=S_ext fun f hfo=>by
    have e1:gt f (cameS s a)=gt f (cameS s b):=by rw [e]
    rw [gt_came hfo,gt_came hfo] at e1
    have k1:=hkeep a ha f hfo
    have k2:=hkeep b hb f hfo
    split at e1
    · exact e1
    · unfold came at e1
      split at e1<;>split at e1<;>omega
  rw [this] at hab
  exact Po.ahead_irrefl _ hab
theorem outs_mem (sw:Int) (y:Po.T) (s t:S):t∈(Po.runs sw y s).map (cameS s)↔t∈outs sw y s:=by
  rw [outs,Po.mem_both];simp
end Tr
set_option linter.unusedSimpArgs false
def nameB (f:Nat):List UInt8:=match f with | 0=>[115,114,99] | 1=>[100,115,116] | 2=>[107,105,110,100] | _=>[116,97,103]
theorem mH:Qz Tryz.prog 96 [] [] fun r _=>r = .agg [.str (nameB 0),.str (nameB 1),.str (nameB 2),.str (nameB 3)]:=by
  refine aB Tryz.func96 rfl (by decide) ?_
  repeat' first|(refine sxZ ?_;try clear hK K)|refine sxW ?_ ?_<;>intro _|(intro K hK _;conv=>whnf)
  rfl
namespace Mt
def fieldS (f:Nat) (v m:Nat):List UInt8:=nameB f++[32]++Lib.itoa v++(if (m:Int)=top f then [] else [47]++Lib.itoa m)
def partsTo (x:N):Nat→List (List UInt8)
  | 0=>if x.p = -1 then [] else [[112,111,114,116,32]++Lib.itoa x.p]
  | k+1=>partsTo x k++(if x.m k=0 then [] else [fieldS k (x.v k) (x.m k)])
def text (x:N):List UInt8:=if partsTo x 4=[] then [97,110,121] else Lib.join (partsTo x 4) [44,32]
theorem partsTo_len (x:N):∀ k,(partsTo x k).length≤k+1
  | 0=>by unfold partsTo;split<;>simp
  | k+1=>by
    have:=partsTo_len x k
    unfold partsTo
    split<;>simp<;>omega
theorem parts_size {x:N} (hp : -1≤x.p∧x.p≤7) (hx:x.lt):∀ k,k≤4→∀ y∈partsTo x k,y.length≤50
  | 0,_,y,hy=>by
    have:=Lib.itoa_length_le x.p (by omega) (by omega)
    unfold partsTo at hy
    split at hy
    · cases hy
    · rw [List.mem_singleton.1 hy];simp;omega
  | k+1,hk,y,hy=>by
    unfold partsTo at hy
    rcases List.mem_append.1 hy with h | h
    · exact parts_size hp hx k (by omega) y h
    · split at h
      · cases h
      · rw [List.mem_singleton.1 h]
        obtain ⟨h1,h2⟩:=hx k (by omega)
        have h3:=Lib.itoa_length_le (x.v k) (by omega) (by omega)
        have h4:=Lib.itoa_length_le (x.m k) (by omega) (by omega)
        have h5:(nameB k).length≤4:=by unfold nameB;split<;>decide
        unfold fieldS
        split<;>simp<;>omega
end Mt
set_option maxHeartbeats 2000000 in
theorem oA (F:Heap) (hF:TabF F) (x:Mt.N) (hp : -1≤x.p∧x.p≤7) (hx:x.lt):Qz Tryz.prog 52 [.agg x.toM.av] [hpB F] fun r m=>r = .str (Mt.text x)∧Qw m [hpB F]:=by
  have hlen:=Mt.partsTo_len x 4
  have hsz:=Mt.parts_size hp hx 4 (Nat.le_refl _)
  have hv:∀ f,f<4→x.toM.av[1+f]?=some (.int .i64 (x.v f))∧x.toM.av[5+f]?=some (.int .i64 (x.m f)):=all4.2 ⟨⟨rfl,rfl⟩,⟨rfl,rfl⟩,⟨rfl,rfl⟩,rfl,rfl⟩
  have h0:x.toM.av[0]?=some (.int .i64 x.p):=rfl
  have hl9:x.toM.av.length=9:=rfl
  refine aB Tryz.func52 rfl (by decide) ?_
  generalize x.toM.av=cs at *
  apply mb
  case main =>
    intro key
    have hI:=Lib.itoa_length_le x.p (by omega) (by omega)
    by_cases hpp:x.p = -1
    · have e0:Mt.partsTo x 0=[]:=by unfold Mt.partsTo;rw [if_pos hpp]
      repeat' first|((try intro K hK);(with_reducible refine gC ?_);refine cP mH ?_)|((try intro K hK);refine nthK.of h0 ?_;conv=>whnf)|(refine sxZ ?_;try clear hK K)|refine sxW ?_ ?_<;>intro _|(intro K hK _;conv=>whnf)
      rename_i b
      refine ik (α:=Value × Nat) (fun z=>z.2≤4) (fun z=>[.any,.ptr 1 ⟨b,0,none⟩ 0,.str [],.sl 2 z.1 (Mt.partsTo x z.2).length,.any,.any,.any,.any,.any,.any,.any,.any,.any,.any,.any,.any,.agg [.str (nameB 0),.str (nameB 1),.str (nameB 2),.str (nameB 3)],.int .i64 z.2,.any,.any,.any,.any,.any,.any,.any,.any,.any,.any,.any,.any,.any,.any,.any,.any,.any,.any,.any,.any,.any,.any,.any,.any,.any,.any,.any,.any,.any,.any,.any,.any,.any,.any,.any,.any,.any,.any,.any,.any,.any,.any,.any,.any,.any,.any,.any,.any])
        (fun z=>[hpB F,⟨⟨b,0,none⟩,cs,.var 72⟩,⟨addrOf z.1,strAV (Mt.partsTo x z.2),.row z.1 9 1 (Mt.partsTo x z.2).length⟩]) (fun z=>4 - z.2)
        (.slice none 0 0,0) (Nat.zero_le _) ?_ ?_ (key.is b)
      · dsimp only
        rw [e0]
        exact aD
      · dsimp only
        rw [e0]
        exact Qw.nilRow _ _ _
    · have e0:Mt.partsTo x 0=[[112,111,114,116,32]++Lib.itoa x.p]:=by unfold Mt.partsTo;rw [if_neg hpp]
      repeat' first|((try intro K hK);(with_reducible refine gC ?_);first|refine cP mH ?_|refine cS [0] (itoa_c F hF x.p (by omega)) ?_)|((try intro K hK);refine nthK.of h0 ?_;conv=>whnf)|(refine sxZ ?_;try clear hK K)|refine sxW ?_ ?_<;>intro _|(intro K hK _;conv=>whnf)
      rename_i b _ v
      refine ik (α:=Value × Nat) (fun z=>z.2≤4) (fun z=>[.any,.ptr 1 ⟨b,0,none⟩ 0,.str [],.sl 2 z.1 (Mt.partsTo x z.2).length,.any,.any,.any,.any,.any,.any,.any,.any,.any,.any,.any,.any,.agg [.str (nameB 0),.str (nameB 1),.str (nameB 2),.str (nameB 3)],.int .i64 z.2,.any,.any,.any,.any,.any,.any,.any,.any,.any,.any,.any,.any,.any,.any,.any,.any,.any,.any,.any,.any,.any,.any,.any,.any,.any,.any,.any,.any,.any,.any,.any,.any,.any,.any,.any,.any,.any,.any,.any,.any,.any,.any,.any,.any,.any,.any,.any,.any])
        (fun z=>[hpB F,⟨⟨b,0,none⟩,cs,.var 72⟩,⟨addrOf z.1,strAV (Mt.partsTo x z.2),.row z.1 9 1 (Mt.partsTo x z.2).length⟩]) (fun z=>4 - z.2)
        (v,0) (Nat.zero_le _) ?_ ?_ (key.is b)
      · dsimp only
        rw [e0]
        exact aD
      · dsimp only
        rw [e0]
        exact Qw.trans (Qw.pick (m':=[_,_,_]) [0,1,3] (by decide) rfl) (Qw.eq (by simp [strAV,repCells,AV.cells]))
  case pf =>
    rintro b ⟨v,k⟩ hk
    dsimp only at hk ⊢
    have hsk:∀ y∈Mt.partsTo x k,y.length≤50:=Mt.parts_size hp hx k hk
    have hlk:=Mt.partsTo_len x k
    rcases Nat.lt_or_ge k 4 with hlt | hge
    · have hs:Mt.partsTo x (k+1)=Mt.partsTo x k++(if x.m k=0 then [] else [Mt.fieldS k (x.v k) (x.m k)]):=rfl
      unfold Mt.fieldS at hs
      obtain ⟨h1,h5⟩:=hv k hlt
      obtain ⟨hv2,hm2⟩:=hx k hlt
      have hnm:[AV.str (nameB 0),AV.str (nameB 1),AV.str (nameB 2),AV.str (nameB 3)][k]?=some (.str (nameB k)):=by
        have:k=0∨k=1∨k=2∨k=3:=by omega
        rcases this with rfl | rfl | rfl | rfl<;>rfl
      have hnl:(nameB k).length≤4:=by unfold nameB;split<;>decide
      have htop:=top_c (k:Int) (by omega)
      generalize hps':Mt.partsTo x (k+1)=ps' at hs
      generalize Mt.partsTo x k=ps at *
      generalize x.v k=fv at *
      generalize x.m k=fm at *
      generalize nameB k=nm at hnm hnl hs
      generalize Mt.top (k:Int)=tp at htop hs
      generalize hns:[AV.str (nameB 0),AV.str (nameB 1),AV.str (nameB 2),AV.str (nameB 3)]=ns at hnm ⊢
      have hIv:=Lib.itoa_length_le fv (by omega) (by omega)
      have hIm:=Lib.itoa_length_le fm (by omega) (by omega)
      repeat' first|((try intro K hK);(with_reducible refine gC ?_);first|refine cP htop ?_|refine cS [0] (itoa_c F hF fv (by omega)) ?_|refine cS [0] (itoa_c F hF fm (by omega)) ?_)|((try intro K hK);refine nthK.of hnm ?_;conv=>whnf)|((try intro K hK);refine nthK.of h1 ?_;conv=>whnf)|((try intro K hK);refine nthK.of h5 ?_;conv=>whnf)|(refine sxO ?_;try clear hK K)|refine sxW ?_ ?_<;>intro _|refine sxV ?_ ?_|(intro K hK _;conv=>whnf)
      all_goals first
        | (have e:Mt.partsTo x (k+1)=ps:=by rw [hps',hs,if_pos (by omega),List.append_nil]
           refine aC (v,k+1) hlt (by dsimp only;omega) ?_ (Qw.eq ?_)
           · dsimp only
             rw [e]
             repeat (first | exact Qq.nil | refine Qq.any ?_ | refine Qq.cons (Fit1.int (by  first | rfl | omega)) ?_ | refine Qq.cons (Fit1.int (by first | rfl | omega)) ?_ | refine Qq.cons (Fit1.bool rfl) ?_ | refine Qq.cons (Fit1.str rfl) ?_ | refine Qq.cons (Fit1.same (by intro h;cases h) (by with_reducible rfl)) ?_ | refine Qq.cons Fit1.nil_sl ?_ | refine Qq.cons (Fit1.hs rfl) ?_ | refine Qq.cons (Fit1.hp rfl rfl) ?_ | refine Qq.cons (Fit1.sl rfl) ?_ | refine Qq.cons (Fit1.ptr rfl rfl) ?_ | refine Qq.cons Fit1.raw ?_)
           · dsimp only
             rw [e])
        | (have e:Mt.partsTo x (k+1)=ps++[nm++[32]++Lib.itoa fv]:=by rw [hps',hs,if_neg (by omega),if_pos (by omega),List.append_nil]
           rename_i v2
           refine aC (v2,k+1) hlt (by dsimp only;omega) ?_ (Qw.trans (Qw.drop [_,_,_] [_]) (Qw.eq ?_))
           · dsimp only
             rw [e,List.length_append]
             repeat (first | exact Qq.nil | refine Qq.any ?_ | refine Qq.cons (Fit1.int (by  first | rfl | omega)) ?_ | refine Qq.cons (Fit1.int (by first | rfl | omega)) ?_ | refine Qq.cons (Fit1.bool rfl) ?_ | refine Qq.cons (Fit1.str rfl) ?_ | refine Qq.cons (Fit1.same (by intro h;cases h) (by with_reducible rfl)) ?_ | refine Qq.cons Fit1.nil_sl ?_ | refine Qq.cons (Fit1.hs rfl) ?_ | refine Qq.cons (Fit1.hp rfl rfl) ?_ | refine Qq.cons (Fit1.sl rfl) ?_ | refine Qq.cons (Fit1.ptr rfl rfl) ?_ | refine Qq.cons Fit1.raw ?_)
           · dsimp only
             rw [e,List.length_append]
             simp [strAV,repCells])
        | (have e:Mt.partsTo x (k+1)=ps++[nm++[32]++Lib.itoa fv++[47]++Lib.itoa fm]:=by rw [hps',hs,if_neg (by omega),if_neg (by omega)];simp only [List.append_assoc]
           rename_i v2
           refine aC (v2,k+1) hlt (by dsimp only;omega) ?_ (Qw.trans (Qw.drop [_,_,_] [_]) (Qw.eq ?_))
           · dsimp only
             rw [e,List.length_append]
             repeat (first | exact Qq.nil | refine Qq.any ?_ | refine Qq.cons (Fit1.int (by  first | rfl | omega)) ?_ | refine Qq.cons (Fit1.int (by first | rfl | omega)) ?_ | refine Qq.cons (Fit1.bool rfl) ?_ | refine Qq.cons (Fit1.str rfl) ?_ | refine Qq.cons (Fit1.same (by intro h;cases h) (by with_reducible rfl)) ?_ | refine Qq.cons Fit1.nil_sl ?_ | refine Qq.cons (Fit1.hs rfl) ?_ | refine Qq.cons (Fit1.hp rfl rfl) ?_ | refine Qq.cons (Fit1.sl rfl) ?_ | refine Qq.cons (Fit1.ptr rfl rfl) ?_ | refine Qq.cons Fit1.raw ?_)
           · dsimp only
             rw [e,List.length_append]
             simp [strAV,repCells])
        | trace_state
    · have e:k=4:=by omega
      subst e
      have hT:Mt.text x=if Mt.partsTo x 4=[] then [97,110,121] else Lib.join (Mt.partsTo x 4) [44,32]:=rfl
      have hjl:=join_len (sep:=[44,32]) hsk
      generalize Mt.partsTo x 4=ps at *
      generalize Mt.text x=tx at *
      repeat' first|((try intro K hK);(with_reducible refine Qz.isF 97 ?_);(refine (join_own F v ps [44,32] 9 _ (Qw.pick (m':=[hpB F,_]) [0,2] (by decide) rfl) (by simp at hjl;omega) (by omega) 2).mono ?_;rintro _ _ ⟨rfl,rfl⟩);conv=>whnf)|(refine sxZ ?_;try clear hK K)|refine sxW ?_ ?_<;>intro _|(intro K hK _;conv=>whnf)
      · exact ⟨by rw [hT,if_pos (List.eq_nil_of_length_eq_zero (by omega))],Qw.drop [_] [_,_]⟩
      · exact ⟨by rw [hT,if_neg (fun e=>by subst e;contradiction)],Qw.drop [_] [_,_]⟩
theorem qd (F:Heap) (hF:TabF F) (x:Mt.N) (hx:x.ok):Qz Tryz.prog 52 [.agg x.toM.av] [hpB F] fun r m=>r = .str (Mt.text x)∧m=[hpB F] :=
  (oA F hF x hx.1 hx.lt).fits fun r m' h=>⟨r,[hpB F],rfl,h.2,h.1,rfl⟩
namespace Mt
end Mt
namespace Ac
structure A where
  k:Int
  f:Int
  v:Int
deriving DecidableEq
def A.av (x:A):List AV:=[.int .i64 x.k,.int .i64 x.f,.int .i64 x.v]
def actV (x:A):List Value:=[.int .i64 x.k,.int .i64 x.f,.int .i64 x.v]
def A.in64 (x:A):Prop:=Mt.i64 x.k∧Mt.i64 x.f∧Mt.i64 x.v
def ok1 (ports:Int) (x:A):Prop:=(x.k=1∧0≤x.f∧x.f≤3∧0≤x.v∧x.v≤Mt.top x.f)∨(x.k=2∧x.f=0∧0≤x.v∧x.v<ports)∨(x.k=3∧x.f=0∧x.v=0)
instance (ports:Int) (x:A):Decidable (ok1 ports x):=by unfold ok1;infer_instance
def okL (ports:Int) (l:List A):Prop:=l.length≤16∧∀ x∈l,ok1 ports x
instance (ports:Int) (l:List A):Decidable (okL ports l):=by unfold okL;infer_instance
end Ac
theorem oP (x:Ac.A) (ports:Int):Qz Tryz.prog 124 [.agg x.av,.int .i64 ports] [] fun r _=>r = .bool (decide (Ac.ok1 ports x)):=by
  refine aB Tryz.func124 rfl (by decide) ?_
  have hq:Ac.ok1 ports x↔(x.k=1∧0≤x.f∧x.f≤3∧0≤x.v∧x.v≤Mt.top x.f)∨(x.k=2∧x.f=0∧0≤x.v∧x.v<ports)∨(x.k=3∧x.f=0∧x.v=0):=Iff.rfl
  obtain ⟨k,f,v⟩:=x
  simp only [Ac.A.av] at *
  by_cases hf:0≤f∧f≤3
  · have ht:=top_c f hf
    generalize Mt.top f=tp at *
    repeat' first|((try intro K hK);(with_reducible refine gQ ?_);refine NCallQ.pureEq ht ?_;conv=>whnf)|(refine sxZ ?_;try clear hK K)|refine sxW ?_ ?_<;>intro _|(intro K hK _;conv=>whnf)
    all_goals first
      | exact boolF (fun h=>by have:=hq.1 h;omega)
      | exact boolT (hq.2 (by omega))
      | exact boolIff (by rw [hq];simp only [Bool.and_eq_true,decide_eq_true_eq,and_true];omega)
  · generalize Mt.top f=tp at *
    repeat' first|(refine sxZ ?_;try clear hK K)|refine sxW ?_ ?_<;>intro _|(intro K hK _;conv=>whnf)
    all_goals first
      | exact boolF (fun h=>by have:=hq.1 h;omega)
      | exact boolT (hq.2 (by omega))
      | exact boolIff (by rw [hq];simp only [Bool.and_eq_true,decide_eq_true_eq,and_true];omega)
      | (exfalso;omega)
def dd (a:Addr) (ports:Int):Blk:=⟨a,[.int .i64 ports],.var 3⟩
theorem nr (x:Ac.A) (ports:Int) (a:Addr):Qz Tryz.prog 123 [.agg x.av,.ptr 0 a 0] [dd a ports] fun r m=>r = .bool (!decide (Ac.ok1 ports x))∧m=[dd a ports]:=by
  refine Qz.fits (K:=fun r m=>r = .bool (!decide (Ac.ok1 ports x))∧Qw m [dd a ports]) ?_ fun r m' h=>⟨r,_,rfl,h.2,h.1,rfl⟩
  refine aB Tryz.func123 rfl (by decide) ?_
  have h:=oP x ports
  obtain ⟨k,f,v⟩:=x
  simp only [Ac.A.av] at *
  unfold dd
  repeat' first|(intro K hK;(with_reducible refine gC ?_);refine cP h ?_)|(refine sxZ ?_;try clear hK K)|refine sxW ?_ ?_<;>intro _|(intro K hK _;conv=>whnf)
  all_goals exact ⟨rfl,Qw.drop [_] [_]⟩
set_option maxHeartbeats 1000000 in
theorem ov (F:Heap) (v:Value) (l:List Ac.A) (hv:aI F 3 (fun x vs=>vs=Ac.actV x) v l) (hn:l.length≤9223372036854775807) (ports:Int) (a:Addr) :
    Qz Tryz.prog 169 [.hs v l.length,.fn 123 [] [.ptr 1 a 0]] [hpB F,dd a ports] fun r m=>(∃ j:Int,r = .int .i64 j∧(0≤j↔∃ x∈l,¬ Ac.ok1 ports x))∧m=[hpB F,dd a ports]:=by
  have hok:=hv.ok
  refine aB Tryz.func169 rfl (by decide) ?_
  repeat' first|(refine sxZ ?_;try clear hK K)|refine sxW ?_ ?_<;>intro _|(intro K hK _;conv=>whnf)
  refine aE (α:=Nat) (fun k=>k≤l.length∧∀ j x,j<k→l[j]?=some x→Ac.ok1 ports x) (fun k=>[.k,.k,.k,.k,.d,.d,.k,.k,.set (.int .i64 k),.d,.d,.d,.d,.d,.d,.d,.d,.d,.d]) (fun _=>[]) (fun k=>l.length - k) 0 ⟨Nat.zero_le _,fun j x hj=>absurd hj (Nat.not_lt_zero _)⟩ ?_ (Qw.eq rfl) ?_
  · exact aD
  (intro k ⟨hk,hgone⟩;intro K hK;(conv=>whnf);refine hK _ _ ?_;clear hK K)
  by_cases hlt:k<l.length
  · obtain ⟨g0,g1,g2⟩:=hv.get3 hlt
    have hx:l[k]?=some l[k]:=List.getElem?_eq_getElem hlt
    generalize l[k]=x at *
    have hw:=nr x ports a
    by_cases hq:Ac.ok1 ports x
    · rw [decide_eq_true hq] at hw
      obtain ⟨xk,xf,xv⟩:=x
      simp only [Ac.A.av] at *
      repeat' first|(intro K hK;(with_reducible refine gC ?_);refine cS [1] hw ?_)|(refine sxZ ?_;try clear hK K)|refine sxW ?_ ?_<;>intro _|(intro K hK _;conv=>whnf)
      refine aC (k+1) ⟨hlt,fun j y hj hy=>?_⟩ (by omega) ?_ (Qw.eq rfl)
      · by_cases e:j=k
        · subst e
          rw [hx] at hy
          injection hy with hy
          rw [← hy];exact hq
        · exact hgone j y (by omega) hy
      · exact aD
    · rw [decide_eq_false hq] at hw
      have hmem:=List.mem_of_getElem? hx
      obtain ⟨xk,xf,xv⟩:=x
      simp only [Ac.A.av] at *
      repeat' first|(intro K hK;(with_reducible refine gC ?_);refine cS [1] hw ?_)|(refine sxZ ?_;try clear hK K)|refine sxW ?_ ?_<;>intro _|(intro K hK _;conv=>whnf)
      exact ⟨⟨_,rfl,⟨fun _=>⟨_,hmem,hq⟩,fun _=>by omega⟩⟩,rfl⟩
  · repeat' first|(refine sxZ ?_;try clear hK K)|refine sxW ?_ ?_<;>intro _|(intro K hK _;conv=>whnf)
    refine ⟨⟨_,rfl,⟨fun h=>by omega,fun ⟨x,hx,hq⟩=>?_⟩⟩,rfl⟩
    obtain ⟨j,hj,e⟩:=List.getElem_of_mem hx
    exact (hq (hgone j x (by omega) (by rw [← e];exact List.getElem?_eq_getElem hj))).elim
theorem kX (F:Heap) (v:Value) (l:List Ac.A) (hv:aI F 3 (fun x vs=>vs=Ac.actV x) v l) (hn:l.length≤9223372036854775807) (ports:Int) (a:Addr) :
    Qz Tryz.prog 122 [.hs v l.length,.fn 123 [] [.ptr 1 a 0]] [hpB F,dd a ports] fun r m=>r = .bool (!decide (∀ x∈l,Ac.ok1 ports x))∧m=[hpB F,dd a ports]:=by
  refine aB Tryz.func122 rfl (by decide) ?_
  repeat' first|(intro K hK;(with_reducible refine gC ?_);(refine cN [0,1] (ov F v l hv hn ports a) ?_;rintro _ _ ⟨⟨j,rfl,hj⟩,rfl⟩;refine cR ?_))|(refine sxZ ?_;try clear hK K)|refine sxW ?_ ?_<;>intro _|(intro K hK _;conv=>whnf)
  refine ⟨?_,rfl⟩
  by_cases h:∀ x∈l,Ac.ok1 ports x
  · rw [decide_eq_true h,decide_eq_false (fun e=>?_)]
    · rfl
    · obtain ⟨x,hx,hq⟩:=hj.1 e
      exact hq (h x hx)
  · rw [decide_eq_false h,decide_eq_true (hj.2 (by simpa using h))]
    rfl
theorem mp (F:Heap) (v:Value) (l:List Ac.A) (hv:aI F 3 (fun x vs=>vs=Ac.actV x) v l) (hn:l.length≤9223372036854775807) (ports:Int) :
    Qz Tryz.prog 81 [.hs v l.length,.int .i64 ports] [hpB F] fun r m=>r = .bool (decide (Ac.okL ports l))∧m=[hpB F]:=by
  have hok:=hv.ok
  refine Qz.fits (K:=fun r m=>r = .bool (decide (Ac.okL ports l))∧Qw m [hpB F]) ?_ fun r m' h=>⟨r,_,rfl,h.2,h.1,rfl⟩
  refine aB Tryz.func81 rfl (by decide) ?_
  have hc:=fun a=>kX F v l hv hn ports a
  have hq:Ac.okL ports l↔l.length≤16∧∀ x∈l,Ac.ok1 ports x:=Iff.rfl
  by_cases h:∀ x∈l,Ac.ok1 ports x
  · simp only [decide_eq_true h] at hc
    repeat' first|(intro K hK;(with_reducible refine gC ?_);refine cS [0,1] (hc _) ?_)|(refine sxZ ?_;try clear hK K)|refine sxW ?_ ?_<;>intro _|(intro K hK _;conv=>whnf)
    all_goals first
      | exact ⟨boolF (fun e=>by have:=(hq.1 e).1;omega),Qw.drop [_] [_]⟩
      | exact ⟨boolT (hq.2 ⟨by omega,h⟩),Qw.drop [_] [_]⟩
  · simp only [decide_eq_false h] at hc
    repeat' first|(intro K hK;(with_reducible refine gC ?_);refine cS [0,1] (hc _) ?_)|(refine sxZ ?_;try clear hK K)|refine sxW ?_ ?_<;>intro _|(intro K hK _;conv=>whnf)
    all_goals first
      | exact ⟨boolF (fun e=>h (hq.1 e).2),Qw.drop [_] [_]⟩
deriving instance DecidableEq for Mt.M
theorem kB (x y:Mt.M):(decide (x.p=y.p)&&(decide (x.v0=y.v0)&&(decide (x.v1=y.v1)&&(decide (x.v2=y.v2)&&(decide (x.v3=y.v3)&&(decide (x.m0=y.m0)&&(decide (x.m1=y.m1)&&(decide (x.m2=y.m2)&&(decide (x.m3=y.m3)&&true)))))))))=decide (x=y):=by
  obtain ⟨p,v0,v1,v2,v3,m0,m1,m2,m3⟩:=x
  obtain ⟨p',w0,w1,w2,w3,n0,n1,n2,n3⟩:=y
  rw [Bool.eq_iff_iff]
  simp only [Bool.and_eq_true,decide_eq_true_eq,Mt.M.mk.injEq,and_true]
namespace Ru
structure R where
  prio:Int
  m:Mt.M
  acts:List Ac.A
def R.cs (x:R) (v:Value):List AV:=[.int .i64 x.prio,.int .i64 x.m.p,.int .i64 x.m.v0,.int .i64 x.m.v1,.int .i64 x.m.v2,.int .i64 x.m.v3,.int .i64 x.m.m0,.int .i64 x.m.m1,.int .i64 x.m.m2,.int .i64 x.m.m3,.hs v x.acts.length]
def R.in64 (x:R):Prop:=Mt.i64 x.prio∧x.m.in64∧(∀ y∈x.acts,y.in64)∧x.acts.length≤9223372036854775807
def ok (ports:Int) (x:R):Prop:=0≤x.prio∧x.prio<65536∧x.m.ok∧Ac.okL ports x.acts
instance (ports:Int) (x:R):Decidable (ok ports x):=by unfold ok;infer_instance
def same (x y:R):Prop:=(x.prio=y.prio∧x.m=y.m)∧x.acts=y.acts
instance (x y:R):Decidable (same x y):=by unfold same;infer_instance
def RowA (F:Heap) (v:Value) (x:R):Prop:=aI F 3 (fun x vs=>vs=Ac.actV x) v x.acts
end Ru
end Go.Proofs.YtmehinfgdcmmjaaGreatDoor
namespace Go.Sx
set_option linter.unusedVariables false
section
variable {P:Program}
end
end Go.Sx
namespace Go.Proofs.YtmehinfgdcmmjaaGreatDoor
open Go.Sx
set_option maxRecDepth 20000
set_option linter.unusedVariables false
namespace Mt
end Mt
namespace Mt
end Mt
namespace Ps
open Lx (B)
end Ps
end Go.Proofs.YtmehinfgdcmmjaaGreatDoor
