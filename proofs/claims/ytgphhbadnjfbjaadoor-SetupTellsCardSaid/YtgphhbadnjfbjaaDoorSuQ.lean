import Derived.Test.YtgphhbadnjfbjaaDoorSuP
namespace Go.Proofs.YtgphhbadnjfbjaaDoor
set_option maxRecDepth 20000
set_option linter.unusedVariables false
namespace Su
theorem itoa_no {n:Int} {c:UInt8} (h1:c.toNat≠45) (h2:¬ (48≤c.toNat∧c.toNat≤57)):c ∉ Lib.itoa n:=by
  intro h
  rcases Int.lt_or_le n 0 with hn | hn
  · obtain ⟨u,rfl⟩:∃ u:Nat,n = -(u:Int):=⟨n.natAbs,by omega⟩
    rw [Lib.itoa_neg u (by omega)] at h
    rcases List.mem_cons.1 h with h | h
    · rw [h] at h1;exact h1 rfl
    · exact h2 (Num.dec_digs u c h)
  · obtain ⟨u,rfl⟩:=Int.eq_ofNat_of_zero_le hn
    rw [Lib.itoa_nonneg u] at h
    exact h2 (Num.dec_digs u c h)
theorem bitsN_no {c:UInt8} (hc:∀ d,d<16→hx d≠c):∀ k n:Nat,c ∉ bitsN k n
  | 0,_=>by simp [bitsN]
  | k+1,n=>by
    rw [bitsN]
    intro h
    rcases List.mem_append.1 h with h | h
    · exact bitsN_no hc k _ h
    · exact hc (n % 16) (Nat.mod_lt _ (by decide)) (List.mem_singleton.1 h).symm
theorem bits_no32 (n:Nat):(32:UInt8) ∉ bits n:=bitsN_no (by decide) 16 n
theorem bits_no10 (n:Nat):(10:UInt8) ∉ bits n:=bitsN_no (by decide) 16 n
theorem itoa_no32 (n:Int):(32:UInt8) ∉ Lib.itoa n:=itoa_no (by decide) (by decide)
theorem itoa_no10 (n:Int):(10:UInt8) ∉ Lib.itoa n:=itoa_no (by decide) (by decide)
def lw (w:L) (p:List L):L:=w++p.flatMap fun x=>32::x
theorem lw_jn (w:L):∀ p:List L,lw w p=jn 32 (w::p)
  | []=>by simp [lw,jn]
  | a::p=>by
    rw [jn,← lw_jn a p]
    simp [lw]
theorem sp_lw {w:L} {p:List L} (hw:(32:UInt8) ∉ w) (hp:∀ x∈p,(32:UInt8) ∉ x):sp 32 (lw w p)=w::p:=by
  rw [lw_jn]
  refine sp_jn 32 _ (by simp) fun a ha=>?_
  rcases List.mem_cons.1 ha with rfl | ha
  · exact hw
  · exact hp a ha
theorem lw_of {x w:L} {p:List L} (h:sp 32 x=w::p):x=lw w p:=by
  rw [lw_jn,← h,jn_sp]
def lineB (w:L) (l:List Int):L:=lw w (l.map Lib.itoa)
def wB (l:List Nat):L:=lw wWeights (l.map bits)
theorem line_B (w:L) (l:List Int):line w l=lineB w l++[10]:=by
  unfold line lineB lw nums
  rw [List.flatMap_map]
theorem wline_B (l:List Nat):wline l=wB l++[10]:=by
  unfold wline wB lw hexs
  rw [List.flatMap_map]
def endsB:List L→List Int→List L
  | w::ws,n::ns=>lineB w [n]::endsB ws ns
  | _,_=>[]
def tl (c:Cfg):List L:=lineB wSwitches [c.sw]::(c.links.map (fun x=>lineB wLink x.l)++(c.hosts.map (fun x=>lineB wHost x.l)++(c.weights.map wB++(lineB wStarts c.starts::endsB wEnds c.e))))
theorem endsT_B:∀ (ws:List L) (ns:List Int),endsT ws ns=(endsB ws ns).flatMap (·++[10])
  | [],_=>by simp [endsT,endsB]
  | w::ws,[]=>by simp [endsT,endsB]
  | w::ws,n::ns=>by rw [endsT,endsB,List.flatMap_cons,endsT_B ws ns,line_B]
theorem text_tl (c:Cfg):text c=(tl c).flatMap (·++[10]):=by
  unfold text tl
  rw [List.flatMap_cons,List.flatMap_append,List.flatMap_append,List.flatMap_append,List.flatMap_cons,List.flatMap_map,List.flatMap_map,List.flatMap_map,← endsT_B]
  simp only [line_B,← wline_B,List.append_assoc]
theorem no10_lw {w:L} {p:List L} (hw:(10:UInt8) ∉ w) (hp:∀ x∈p,(10:UInt8) ∉ x):(10:UInt8) ∉ lw w p:=by
  unfold lw
  intro h
  rcases List.mem_append.1 h with h | h
  · exact hw h
  · obtain ⟨x,hx,h⟩:=List.mem_flatMap.1 h
    rcases List.mem_cons.1 h with h | h
    · cases h
    · exact hp x hx h
theorem no10_line {w:L} (hw:(10:UInt8) ∉ w) (l:List Int):(10:UInt8) ∉ lineB w l:=no10_lw hw fun x hx=>by
  obtain ⟨n,_,rfl⟩:=List.mem_map.1 hx
  exact itoa_no10 n
theorem no10_ends:∀ (ws:List L) (ns:List Int),(∀ w∈ws,(10:UInt8) ∉ w)→∀ x∈endsB ws ns,(10:UInt8) ∉ x
  | [],_,_,x,h=>by simp [endsB] at h
  | w::ws,[],_,x,h=>by simp [endsB] at h
  | w::ws,n::ns,hw,x,h=>by
    rw [endsB] at h
    rcases List.mem_cons.1 h with rfl | h
    · exact no10_line (hw w (List.mem_cons_self ..)) _
    · exact no10_ends ws ns (fun v hv=>hw v (List.mem_cons_of_mem _ hv)) x h
theorem no10_tl (c:Cfg):∀ x∈tl c,(10:UInt8) ∉ x:=by
  intro x h
  unfold tl at h
  rcases List.mem_cons.1 h with rfl | h
  · exact no10_line (by decide) _
  rcases List.mem_append.1 h with h | h
  · obtain ⟨y,_,rfl⟩:=List.mem_map.1 h
    exact no10_line (by decide) _
  rcases List.mem_append.1 h with h | h
  · obtain ⟨y,_,rfl⟩:=List.mem_map.1 h
    exact no10_line (by decide) _
  rcases List.mem_append.1 h with h | h
  · obtain ⟨y,_,rfl⟩:=List.mem_map.1 h
    exact no10_lw (by decide) fun x hx=>by
      obtain ⟨n,_,rfl⟩:=List.mem_map.1 hx
      exact bits_no10 n
  rcases List.mem_cons.1 h with rfl | h
  · exact no10_line (by decide) _
  · exact no10_ends _ _ (by decide) x h
theorem sp_lines:∀ (l:List L) (r:L),(∀ x∈l,(10:UInt8) ∉ x)→sp 10 (l.flatMap (·++[10])++r)=l++sp 10 r
  | [],r,_=>by simp
  | x::l,r,h=>by
    rw [List.flatMap_cons,List.append_assoc,List.append_assoc,List.singleton_append,sp_app (h x (List.mem_cons_self ..)),sp_lines l r fun y hy=>h y (List.mem_cons_of_mem _ hy)]
    rfl
def inB (n:Int):Prop:=-big≤n∧n≤big
theorem all_num:∀ l:List Int,(∀ n∈l,inB n)→all num (l.map Lib.itoa)=some l
  | [],_=>rfl
  | n::l,h=>by
    rw [List.map_cons,all,num_some.2 ⟨rfl,h n (List.mem_cons_self ..)⟩,all_num l fun m hm=>h m (List.mem_cons_of_mem _ hm)]
theorem all_hex:∀ l:List Nat,(∀ n∈l,n<18446744073709551616)→all hex (l.map bits)=some l
  | [],_=>rfl
  | n::l,h=>by
    rw [List.map_cons,all,hex_some.2 ⟨rfl,h n (List.mem_cons_self ..)⟩,all_hex l fun m hm=>h m (List.mem_cons_of_mem _ hm)]
theorem cut_hit {w:L} {p r:List L} (hw:(32:UInt8) ∉ w) (hp:∀ x∈p,(32:UInt8) ∉ x) (hr:r≠[]):cut w (lw w p::r)=some (p,r):=by
  cases r with
  | nil=>exact (hr rfl).elim
  | cons y r=>rw [cut,sp_lw hw hp];exact if_pos rfl
theorem cut_no {w v:L} {p r:List L} (hv:(32:UInt8) ∉ v) (hp:∀ x∈p,(32:UInt8) ∉ x) (h:v≠w):cut w (lw v p::r)=none:=by
  cases r with
  | nil=>rfl
  | cons y r =>
    rw [cut,sp_lw hv hp]
    exact if_neg fun e=>h (by injection e)
theorem no32_itoa (l:List Int):∀ x∈l.map Lib.itoa,(32:UInt8) ∉ x:=fun x hx=>by
  obtain ⟨n,_,rfl⟩:=List.mem_map.1 hx
  exact itoa_no32 n
theorem no32_bits (l:List Nat):∀ x∈l.map bits,(32:UInt8) ∉ x:=fun x hx=>by
  obtain ⟨n,_,rfl⟩:=List.mem_map.1 hx
  exact bits_no32 n
theorem ints_hit {w:L} {l:List Int} {r:List L} {mo:Option Nat} (hw:(32:UInt8) ∉ w) (hl:∀ n∈l,inB n) (hm:mo.all (fun m=>decide (l.length=m))=true) (hr:r≠[]):ints w mo (lineB w l::r) = .ok l r:=by
  unfold ints lineB
  rw [cut_hit hw (no32_itoa l) hr]
  dsimp only
  rw [List.length_map,if_pos hm,all_num l hl]
theorem ints_no {w v:L} {l:List Int} {r:List L} {mo:Option Nat} (hv:(32:UInt8) ∉ v) (h:v≠w):ints w mo (lineB v l::r) = .no:=by
  unfold ints lineB
  rw [cut_no hv (no32_itoa l) h]
theorem ints_now {w:L} {l:List Nat} {r:List L} {mo:Option Nat} (h:wWeights≠w):ints w mo (wB l::r) = .no:=by
  unfold ints wB
  rw [cut_no (by decide) (no32_bits l) h]
theorem sets_hit {l:List Nat} {r:List L} (hl:∀ n∈l,n<18446744073709551616) (hr:r≠[]):sets (wB l::r) = .ok l r:=by
  unfold sets wB
  rw [cut_hit (by decide) (no32_bits l) hr]
  dsimp only
  rw [all_hex l hl]
theorem sets_no {v:L} {l:List Int} {r:List L} (hv:(32:UInt8) ∉ v) (h:v≠wWeights):sets (lineB v l::r) = .no:=by
  unfold sets lineB
  rw [cut_no hv (no32_itoa l) h]
theorem many_hit {α β:Type} {one:List L→I α} {f:α→β} {g:β→L} {h:β→α} {r:List L} (hr:r≠[]) (hno:one r = .no) (hfh:∀ y,f (h y)=y) :
    ∀ (l:List β) (k:Nat) (acc:List β) (n:Nat),(∀ y∈l,∀ q,q≠[]→one (g y::q) = .ok (h y) q)→l.length<k→many one f k acc (l.map g++r) n = .ok (acc++l) r (n+l.length)
  | [],0,acc,n,_,hk=>by simp at hk
  | [],k+1,acc,n,_,_=>by rw [List.map_nil,List.nil_append,many,hno];simp
  | y::l,0,acc,n,_,hk=>by simp at hk
  | y::l,k+1,acc,n,hone,hk=>by
    rw [List.map_cons,List.cons_append,many,hone y (List.mem_cons_self ..) _ (by simp [hr])]
    dsimp only
    rw [hfh,many_hit hr hno hfh l k (acc++[y]) (n+1) (fun z hz=>hone z (List.mem_cons_of_mem _ hz)) (by simpa using hk)]
    simp [Nat.add_assoc,Nat.add_comm 1]
structure Clean (c:Cfg):Prop where
  sw:inB c.sw
  links:∀ x∈c.links,∀ n∈x.l,inB n
  hosts:∀ x∈c.hosts,∀ n∈x.l,inB n
  weights:∀ l∈c.weights,∀ n∈l,n<18446744073709551616
  starts:∀ n∈c.starts,inB n
  ends:∀ n∈c.e,inB n
theorem must_hit {w:L} {l:List Int} {r:List L} {mo:Option Nat} {n:Nat} (hw:(32:UInt8) ∉ w) (hl:∀ n∈l,inB n) (hm:mo.all (fun m=>decide (l.length=m))=true) (hr:r≠[]):must w mo (lineB w l::r) n = .ok l r (n+1):=by
  unfold must
  rw [ints_hit hw hl hm hr]
theorem tails_hit {R:List L}:∀ (ws:List L) (ns:List Int) (acc:List Int) (n:Nat),ws.length=ns.length→(∀ w∈ws,(32:UInt8) ∉ w)→(∀ m∈ns,inB m)→R≠[]→tails ws acc (endsB ws ns++R) n = .ok (acc++ns) R (n+ns.length)
  | [],[],acc,n,_,_,_,_=>by simp [tails,endsB]
  | [],_::_,_,_,h,_,_,_=>by simp at h
  | _::_,[],_,_,h,_,_,_=>by simp at h
  | w::ws,m::ns,acc,n,hl,hw,hn,hR=>by
    rw [endsB,List.cons_append,tails,must_hit (hw w (List.mem_cons_self ..)) (fun x hx=>by rw [List.mem_singleton.1 hx];exact hn m (List.mem_cons_self ..)) rfl (by simp [hR])]
    show tails ws (acc++[m]) (endsB ws ns++R) (n+1)=_
    rw [tails_hit ws ns (acc++[m]) (n+1) (by simpa using hl) (fun v hv=>hw v (List.mem_cons_of_mem _ hv)) (fun x hx=>hn x (List.mem_cons_of_mem _ hx)) hR]
    simp [Nat.add_assoc,Nat.add_comm 1]
theorem lnk_l (x:Lk):link x.l=x:=rfl
theorem hst_l (x:Hs):host x.l=x:=rfl
theorem parse_to (c:Cfg) (h:Clean c) (T:List L) (hT:T≠[]):∃ n,parse (lineB wSwitches [c.sw]::(c.links.map (fun x=>lineB wLink x.l)++(c.hosts.map (fun x=>lineB wHost x.l)++(c.weights.map wB++(lineB wStarts c.starts::T))))) =
    bind (tails wEnds [] T (n+1)) fun f ls n=>done (cfg [c.sw] c.links c.hosts c.weights c.starts f) ls n:=by
  unfold parse
  rw [must_hit (by decide) (fun n hn=>by rw [List.mem_singleton.1 hn];exact h.sw) rfl (by simp)]
  have hS:∀ T,lineB wStarts c.starts::T≠[]:=fun T=>by simp
  have e1:∀ (w:L) (mo:Option Nat),wWeights≠w→wStarts≠w→ints w mo (c.weights.map wB++(lineB wStarts c.starts::T)) = .no:=fun w mo h1 h2=>by
    cases hw:c.weights with
    | nil=>exact ints_no (by decide) h2
    | cons x l=>exact ints_now h1
  have e2:ints wLink (some 6) (c.hosts.map (fun x=>lineB wHost x.l)++(c.weights.map wB++(lineB wStarts c.starts::T))) = .no:=by
    cases hh:c.hosts with
    | nil=>exact e1 _ _ (by decide) (by decide)
    | cons x l=>exact ints_no (by decide) (by decide)
  show ∃ n,bind (lnks _ 2) _=_
  unfold lnks
  rw [many_hit (f:=link) (g:=fun x=>lineB wLink x.l) (h:=Lk.l) (by simp) e2 lnk_l c.links _ [] 2 (fun y hy q hq=>ints_hit (by decide) (h.links y hy) rfl hq) (by simp;omega)]
  show ∃ n,bind (hsts _ _) _=_
  unfold hsts
  rw [many_hit (f:=host) (g:=fun x=>lineB wHost x.l) (h:=Hs.l) (by simp) (e1 _ _ (by decide) (by decide)) hst_l c.hosts _ [] _ (fun y hy q hq=>ints_hit (by decide) (h.hosts y hy) rfl hq) (by simp;omega)]
  show ∃ n,bind (wgts _ _) _=_
  unfold wgts
  rw [many_hit (f:=id) (g:=wB) (h:=id) (hS T) (sets_no (by decide) (by decide)) (fun _=>rfl) c.weights _ [] _ (fun y hy q hq=>sets_hit (h.weights y hy) hq) (by simp)]
  show ∃ n,bind (must wStarts none _ _) _=_
  rw [must_hit (by decide) h.starts rfl hT]
  exact ⟨_,rfl⟩
theorem cfg_e (c:Cfg):cfg [c.sw] c.links c.hosts c.weights c.starts c.e=c:=rfl
theorem parse_tl (c:Cfg) (h:Clean c) (R:List L) (hR:R≠[]):∃ n,parse (tl c++R)=done c R (n+1):=by
  have e:endsB wEnds c.e≠[]:=by unfold wEnds Cfg.e;simp [endsB]
  obtain ⟨n,hn⟩:=parse_to c h (endsB wEnds c.e++R) (by simp [hR])
  refine ⟨n+6,?_⟩
  unfold tl
  simp only [List.cons_append,List.append_assoc]
  rw [hn,tails_hit wEnds c.e [] (n+1) rfl (by decide) h.ends hR]
  show done (cfg _ _ _ _ _ c.e) R (n+1+6)=_
  rw [cfg_e]
theorem out_back (c:Cfg) (h:Clean c):out (text c)=(c,0,0):=by
  obtain ⟨n,hn⟩:=parse_tl c h [[]] (by simp)
  have:=sp_lines (tl c) [] (no10_tl c)
  rw [List.append_nil,← text_tl] at this
  unfold out
  rw [this,show sp 10 []=[[]] from rfl,hn]
  rfl
theorem cut_inv {w:L} {ls p r:List L} (h:cut w ls=some (p,r)):ls=lw w p::r∧r≠[]:=by
  unfold cut at h
  split at h
  · rename_i x y q
    split at h
    · rename_i hw
      cases h
      have:sp 32 x=w::(sp 32 x).tail:=by
        cases e:sp 32 x with
        | nil=>rw [e] at hw;cases hw
        | cons a l=>rw [e] at hw;cases hw;rfl
      exact ⟨by rw [← lw_of this],by simp⟩
    · cases h
  · cases h
theorem num_inv:∀ (p:List L) (xs:List Int),all num p=some xs→p=xs.map Lib.itoa∧∀ n∈xs,inB n
  | [],xs,h=>by rw [all] at h;cases h;exact ⟨rfl,by simp⟩
  | x::p,xs,h=>by
    rw [all] at h
    cases hx:num x with
    | none=>rw [hx] at h;cases h
    | some a =>
      rw [hx] at h
      cases hp:all num p with
      | none=>rw [hp] at h;cases h
      | some l =>
        rw [hp] at h
        cases h
        obtain ⟨h1,h2⟩:=num_inv p l hp
        obtain ⟨h3,h4⟩:=num_some.1 hx
        refine ⟨by rw [List.map_cons,h3,← h1],fun n hn=>?_⟩
        rcases List.mem_cons.1 hn with rfl | hn
        · exact h4
        · exact h2 n hn
theorem hex_inv:∀ (p:List L) (xs:List Nat),all hex p=some xs→p=xs.map bits
  | [],xs,h=>by rw [all] at h;cases h;rfl
  | x::p,xs,h=>by
    rw [all] at h
    cases hx:hex x with
    | none=>rw [hx] at h;cases h
    | some a =>
      rw [hx] at h
      cases hp:all hex p with
      | none=>rw [hp] at h;cases h
      | some l =>
        rw [hp] at h
        cases h
        rw [List.map_cons,(hex_some.1 hx).1,← hex_inv p l hp]
theorem ints_inv {w:L} {mo:Option Nat} {ls r:List L} {xs:List Int} (h:ints w mo ls = .ok xs r):ls=lineB w xs::r∧(∀ m,mo=some m→xs.length=m):=by
  unfold ints at h
  split at h
  · cases h
  · rename_i p r' hc
    split at h
    · rename_i hm
      split at h
      · cases h
      · rename_i ys hy
        cases h
        obtain ⟨h1,_⟩:=cut_inv hc
        obtain ⟨h2,_⟩:=num_inv p xs hy
        refine ⟨by rw [h1,h2];rfl,fun m e=>?_⟩
        rw [e] at hm
        have:p.length=m:=by simpa using hm
        rw [← this,h2,List.length_map]
    · cases h
theorem sets_inv {ls r:List L} {xs:List Nat} (h:sets ls = .ok xs r):ls=wB xs::r:=by
  unfold sets at h
  split at h
  · cases h
  · rename_i p r' hc
    split at h
    · cases h
    · rename_i ys hy
      cases h
      obtain ⟨h1,_⟩:=cut_inv hc
      rw [h1,hex_inv p xs hy];rfl
theorem many_inv {α β:Type} {one:List L→I α} {f:α→β} {g:β→L} (hg:∀ ls x r,one ls = .ok x r→ls=g (f x)::r) :
    ∀ (k:Nat) (acc:List β) (ls:List L) (n:Nat) (ys:List β) (r:List L) (m:Nat),many one f k acc ls n = .ok ys r m→∃ l,ys=acc++l∧ls=l.map g++r∧n≤m
  | 0,acc,ls,n,ys,r,m,h=>by rw [many] at h;cases h
  | k+1,acc,ls,n,ys,r,m,h=>by
    rw [many] at h
    split at h
    · cases h;exact ⟨[],by simp,by simp,Nat.le_refl _⟩
    · cases h
    · rename_i x q hx
      obtain ⟨l,h1,h2,h3⟩:=many_inv hg k _ _ _ _ _ _ h
      exact ⟨f x::l,by rw [h1];simp,by rw [hg ls x q hx,h2];rfl,by omega⟩
theorem many_pos {α β:Type} {one:List L→I α} {f:α→β}:∀ (k:Nat) (acc:List β) (ls:List L) (n b:Nat),many one f k acc ls n = .bad b→n≤b
  | 0,acc,ls,n,b,h=>by rw [many] at h;cases h;exact Nat.le_refl _
  | k+1,acc,ls,n,b,h=>by
    rw [many] at h
    split at h
    · cases h
    · cases h;exact Nat.le_refl _
    · have:=many_pos k _ _ _ _ h;omega
theorem must_inv {w:L} {mo:Option Nat} {ls r:List L} {xs:List Int} {n m:Nat} (h:must w mo ls n = .ok xs r m):ls=lineB w xs::r∧m=n+1∧(∀ k,mo=some k→xs.length=k):=by
  unfold must at h
  split at h
  · rename_i x q hx
    cases h
    exact ⟨(ints_inv hx).1,rfl,(ints_inv hx).2⟩
  · cases h
theorem must_pos {w:L} {mo:Option Nat} {ls:List L} {n b:Nat} (h:must w mo ls n = .bad b):b=n:=by
  unfold must at h
  split at h
  · cases h
  · cases h;rfl
theorem tails_inv:∀ (ws:List L) (acc:List Int) (ls:List L) (n:Nat) (f:List Int) (r:List L) (m:Nat),tails ws acc ls n = .ok f r m→∃ ns,f=acc++ns∧ns.length=ws.length∧ls=endsB ws ns++r
  | [],acc,ls,n,f,r,m,h=>by rw [tails] at h;cases h;exact ⟨[],by simp,rfl,by simp [endsB]⟩
  | w::ws,acc,ls,n,f,r,m,h=>by
    rw [tails] at h
    cases e:must w (some 1) ls n with
    | bad b=>rw [e] at h;cases h
    | ok xs q k =>
      rw [e] at h
      have h:tails ws (acc++[xs.getD 0 0]) q k = .ok f r m:=h
      obtain ⟨h1,_,h2⟩:=must_inv e
      have h2:=h2 1 rfl
      obtain ⟨ns,h3,h4,h5⟩:=tails_inv ws _ _ _ _ _ _ h
      match xs,h2 with
      | [x],_=>exact ⟨x::ns,by rw [h3];simp,by simpa using h4,by rw [h1,h5];simp [endsB]⟩
theorem tails_pos:∀ (ws:List L) (acc:List Int) (ls:List L) (n b:Nat),tails ws acc ls n = .bad b→n≤b
  | [],acc,ls,n,b,h=>by rw [tails] at h;cases h
  | w::ws,acc,ls,n,b,h=>by
    rw [tails] at h
    cases e:must w (some 1) ls n with
    | bad c=>rw [e] at h;cases h;rw [must_pos e];exact Nat.le_refl _
    | ok xs q k =>
      rw [e] at h
      have:=tails_pos ws _ _ _ _ (show tails ws (acc++[xs.getD 0 0]) q k = .bad b from h)
      have:=(must_inv e).2.1
      omega
theorem lst6 {l:List Int} (h:l.length=6):(link l).l=l:=by
  match l,h with
  | [a,b,c,d,e,f],_=>rfl
theorem lst2 {l:List Int} (h:l.length=2):(host l).l=l:=by
  match l,h with
  | [a,b],_=>rfl
theorem lstE {l:List Int} (h:l.length=6) (sw:List Int) (a:List Lk) (b:List Hs) (c:List (List Nat)) (d:List Int):(cfg sw a b c d l).e=l:=by
  match l,h with
  | [a,b,c,d,e,f],_=>rfl
theorem parse_inv {ls:List L} {c:Cfg} {r:List L} {n:Nat} (h:parse ls = .ok c r n):ls=tl c++[[]]:=by
  unfold parse at h
  cases e1:must wSwitches (some 1) ls 1 with
  | bad b=>rw [e1] at h;cases h
  | ok a l1 n1 =>
  rw [e1] at h
  have h:bind (lnks l1 n1) _=_:=h
  cases e2:lnks l1 n1 with
  | bad b=>rw [e2] at h;cases h
  | ok b l2 n2 =>
  rw [e2] at h
  have h:bind (hsts l2 n2) _=_:=h
  cases e3:hsts l2 n2 with
  | bad b=>rw [e3] at h;cases h
  | ok d l3 n3 =>
  rw [e3] at h
  have h:bind (wgts l3 n3) _=_:=h
  cases e4:wgts l3 n3 with
  | bad b=>rw [e4] at h;cases h
  | ok w l4 n4 =>
  rw [e4] at h
  have h:bind (must wStarts none l4 n4) _=_:=h
  cases e5:must wStarts none l4 n4 with
  | bad b=>rw [e5] at h;cases h
  | ok st l5 n5 =>
  rw [e5] at h
  have h:bind (tails wEnds [] l5 n5) _=_:=h
  cases e6:tails wEnds [] l5 n5 with
  | bad b=>rw [e6] at h;cases h
  | ok f l6 n6 =>
  rw [e6] at h
  have h:done _ l6 n6=_:=h
  unfold done at h
  split at h
  · rename_i hl6
    cases h
    obtain ⟨g1,_,g1'⟩:=must_inv e1
    obtain ⟨q2,g2,g2',_⟩:=many_inv (g:=fun x=>lineB wLink x.l) (fun ls x r h=>by rw [lst6 ((ints_inv h).2 6 rfl)];exact (ints_inv h).1) _ _ _ _ _ _ _ e2
    obtain ⟨q3,g3,g3',_⟩:=many_inv (g:=fun x=>lineB wHost x.l) (fun ls x r h=>by rw [lst2 ((ints_inv h).2 2 rfl)];exact (ints_inv h).1) _ _ _ _ _ _ _ e3
    obtain ⟨q4,g4,g4',_⟩:=many_inv (g:=wB) (fun ls x r h=>sets_inv h) _ _ _ _ _ _ _ e4
    obtain ⟨g5,_,_⟩:=must_inv e5
    obtain ⟨ns,g6,g6',g6''⟩:=tails_inv _ _ _ _ _ _ _ e6
    rw [List.nil_append] at g2 g3 g4 g6
    subst g2 g3 g4 g6 hl6
    have hf:f.length=6:=g6'
    have g1':=g1' 1 rfl
    match a,g1' with
    | [sw],_ =>
      unfold tl
      rw [lstE hf]
      rw [g1,g2',g3',g4',g5,g6'']
      simp [cfg]
  · cases h
theorem parse_pos {ls:List L} {b:Nat} (h:parse ls = .bad b):0<b:=by
  unfold parse at h
  cases e1:must wSwitches (some 1) ls 1 with
  | bad c=>rw [e1] at h;cases h;rw [must_pos e1];decide
  | ok a l1 n1 =>
  rw [e1] at h
  have k1:=(must_inv e1).2.1
  have h:bind (lnks l1 n1) _=_:=h
  cases e2:lnks l1 n1 with
  | bad c=>rw [e2] at h;cases h;have:=many_pos _ _ _ _ _ e2;omega
  | ok b l2 n2 =>
  rw [e2] at h
  obtain ⟨_,_,_,k2⟩:=many_inv (g:=fun x=>lineB wLink x.l) (fun ls x r h=>by rw [lst6 ((ints_inv h).2 6 rfl)];exact (ints_inv h).1) _ _ _ _ _ _ _ e2
  have h:bind (hsts l2 n2) _=_:=h
  cases e3:hsts l2 n2 with
  | bad c=>rw [e3] at h;cases h;have:=many_pos _ _ _ _ _ e3;omega
  | ok d l3 n3 =>
  rw [e3] at h
  obtain ⟨_,_,_,k3⟩:=many_inv (g:=fun x=>lineB wHost x.l) (fun ls x r h=>by rw [lst2 ((ints_inv h).2 2 rfl)];exact (ints_inv h).1) _ _ _ _ _ _ _ e3
  have h:bind (wgts l3 n3) _=_:=h
  cases e4:wgts l3 n3 with
  | bad c=>rw [e4] at h;cases h;have:=many_pos _ _ _ _ _ e4;omega
  | ok w l4 n4 =>
  rw [e4] at h
  obtain ⟨_,_,_,k4⟩:=many_inv (g:=wB) (fun ls x r h=>sets_inv h) _ _ _ _ _ _ _ e4
  have h:bind (must wStarts none l4 n4) _=_:=h
  cases e5:must wStarts none l4 n4 with
  | bad c=>rw [e5] at h;cases h;rw [must_pos e5];omega
  | ok st l5 n5 =>
  rw [e5] at h
  have k5:=(must_inv e5).2.1
  have h:bind (tails wEnds [] l5 n5) _=_:=h
  cases e6:tails wEnds [] l5 n5 with
  | bad c=>rw [e6] at h;cases h;have:=tails_pos _ _ _ _ _ e6;omega
  | ok f l6 n6 =>
  rw [e6] at h
  have h:done _ l6 n6=_:=h
  unfold done at h
  split at h
  · cases h
  · injection h with hb
    have:n5≤n6:=by
      have:∀ (ws:List L) (acc:List Int) (ls:List L) (n:Nat) (f:List Int) (r:List L) (m:Nat),tails ws acc ls n = .ok f r m→n≤m:=fun ws=>by
        induction ws with
        | nil=>intro acc ls n f r m h;rw [tails] at h;cases h;exact Nat.le_refl _
        | cons w ws ih =>
          intro acc ls n f r m h
          rw [tails] at h
          cases e:must w (some 1) ls n with
          | bad b=>rw [e] at h;cases h
          | ok xs q k =>
            rw [e] at h
            have:=ih _ _ _ _ _ _ (show tails ws (acc++[xs.getD 0 0]) q k = .ok f r m from h)
            have:=(must_inv e).2.1
            omega
      exact this _ _ _ _ _ _ _ e6
    omega
theorem jn_lines:∀ l:List L,jn 10 (l++[[]])=l.flatMap (·++[10])
  | []=>rfl
  | [x]=>by simp [jn]
  | x::y::l=>by
    have ih:=jn_lines (y::l)
    rw [List.cons_append,List.cons_append,jn,← List.cons_append,ih]
    simp
theorem out_again (s:L):((out s).2.2=0∧(out s).2.1=0∧text (out s).1=s)∨((out s).2.2=10∧0<(out s).2.1∧(out s).1=none40):=by
  unfold out
  cases e:parse (sp 10 s) with
  | bad b=>exact .inr ⟨rfl,parse_pos e,rfl⟩
  | ok c r n =>
    refine .inl ⟨rfl,rfl,?_⟩
    show text c=s
    rw [text_tl,← jn_lines,← parse_inv e,jn_sp]
end Su
end Go.Proofs.YtgphhbadnjfbjaaDoor
