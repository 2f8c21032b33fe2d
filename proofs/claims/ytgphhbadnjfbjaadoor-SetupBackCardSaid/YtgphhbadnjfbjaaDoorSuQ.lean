import Derived.Test.YtgphhbadnjfbjaaDoorSuP
namespace Go.Proofs.YtgphhbadnjfbjaaDoor
set_option maxRecDepth 20000
set_option linter.unusedVariables false
namespace Su
theorem itoa_no {n:Int} {c:UInt8} (h1:c.toNat≠45) (h2:¬ (48≤c.toNat∧c.toNat≤57)):c ∉ Lib.itoa n:=by
  intro h
  rcases Int.lt_or_le n 0 with hn | hn
  · obtain ⟨u,rfl⟩:∃ u:Nat,n = -(u:Int):=⟨n.natAbs,by omega⟩
    rw [Lib.itoa_neg u (by omega)] at h
    rcases List.mem_cons.1 h with h | h
    · rw [h] at h1;exact h1 rfl
    · exact h2 (Num.dec_digs u c h)
  · obtain ⟨u,rfl⟩:=Int.eq_ofNat_of_zero_le hn
    rw [Lib.itoa_nonneg u] at h
    exact h2 (Num.dec_digs u c h)
theorem bitsN_no {c:UInt8} (hc:∀ d,d<16→hx d≠c):∀ k n:Nat,c ∉ bitsN k n
  | 0,_=>by simp [bitsN]
  | k+1,n=>by
    rw [bitsN]
    intro h
    rcases List.mem_append.1 h with h | h
    · exact bitsN_no hc k _ h
    · exact hc (n % 16) (Nat.mod_lt _ (by decide)) (List.mem_singleton.1 h).symm
theorem bits_no32 (n:Nat):(32:UInt8) ∉ bits n:=bitsN_no (by decide) 16 n
theorem bits_no10 (n:Nat):(10:UInt8) ∉ bits n:=bitsN_no (by decide) 16 n
theorem itoa_no32 (n:Int):(32:UInt8) ∉ Lib.itoa n:=itoa_no (by decide) (by decide)
theorem itoa_no10 (n:Int):(10:UInt8) ∉ Lib.itoa n:=itoa_no (by decide) (by decide)
def lw (w:L) (p:List L):L:=w++p.flatMap fun x=>32::x
theorem lw_jn (w:L):∀ p:List L,lw w p=jn 32 (w::p)
  | []=>by simp [lw,jn]
  | a::p=>by
    rw [jn,← lw_jn a p]
    simp [lw]
theorem sp_lw {w:L} {p:List L} (hw:(32:UInt8) ∉ w) (hp:∀ x∈p,(32:UInt8) ∉ x):sp 32 (lw w p)=w::p:=by
  rw [lw_jn]
  refine sp_jn 32 _ (by simp) fun a ha=>?_
  rcases List.mem_cons.1 ha with rfl | ha
  · exact hw
  · exact hp a ha
def lineB (w:L) (l:List Int):L:=lw w (l.map Lib.itoa)
def wB (l:List Nat):L:=lw wWeights (l.map bits)
theorem line_B (w:L) (l:List Int):line w l=lineB w l++[10]:=by
  unfold line lineB lw nums
  rw [List.flatMap_map]
theorem wline_B (l:List Nat):wline l=wB l++[10]:=by
  unfold wline wB lw hexs
  rw [List.flatMap_map]
def endsB:List L→List Int→List L
  | w::ws,n::ns=>lineB w [n]::endsB ws ns
  | _,_=>[]
def tl (c:Cfg):List L:=lineB wSwitches [c.sw]::(c.links.map (fun x=>lineB wLink x.l)++(c.hosts.map (fun x=>lineB wHost x.l)++(c.weights.map wB++(lineB wStarts c.starts::endsB wEnds c.e))))
theorem endsT_B:∀ (ws:List L) (ns:List Int),endsT ws ns=(endsB ws ns).flatMap (·++[10])
  | [],_=>by simp [endsT,endsB]
  | w::ws,[]=>by simp [endsT,endsB]
  | w::ws,n::ns=>by rw [endsT,endsB,List.flatMap_cons,endsT_B ws ns,line_B]
theorem text_tl (c:Cfg):text c=(tl c).flatMap (·++[10]):=by
  unfold text tl
  rw [List.flatMap_cons,List.flatMap_append,List.flatMap_append,List.flatMap_append,List.flatMap_cons,List.flatMap_map,List.flatMap_map,List.flatMap_map,← endsT_B]
  simp only [line_B,← wline_B,List.append_assoc]
theorem no10_lw {w:L} {p:List L} (hw:(10:UInt8) ∉ w) (hp:∀ x∈p,(10:UInt8) ∉ x):(10:UInt8) ∉ lw w p:=by
  unfold lw
  intro h
  rcases List.mem_append.1 h with h | h
  · exact hw h
  · obtain ⟨x,hx,h⟩:=List.mem_flatMap.1 h
    rcases List.mem_cons.1 h with h | h
    · cases h
    · exact hp x hx h
theorem no10_line {w:L} (hw:(10:UInt8) ∉ w) (l:List Int):(10:UInt8) ∉ lineB w l:=no10_lw hw fun x hx=>by
  obtain ⟨n,_,rfl⟩:=List.mem_map.1 hx
  exact itoa_no10 n
theorem no10_ends:∀ (ws:List L) (ns:List Int),(∀ w∈ws,(10:UInt8) ∉ w)→∀ x∈endsB ws ns,(10:UInt8) ∉ x
  | [],_,_,x,h=>by simp [endsB] at h
  | w::ws,[],_,x,h=>by simp [endsB] at h
  | w::ws,n::ns,hw,x,h=>by
    rw [endsB] at h
    rcases List.mem_cons.1 h with rfl | h
    · exact no10_line (hw w (List.mem_cons_self ..)) _
    · exact no10_ends ws ns (fun v hv=>hw v (List.mem_cons_of_mem _ hv)) x h
theorem no10_tl (c:Cfg):∀ x∈tl c,(10:UInt8) ∉ x:=by
  intro x h
  unfold tl at h
  rcases List.mem_cons.1 h with rfl | h
  · exact no10_line (by decide) _
  rcases List.mem_append.1 h with h | h
  · obtain ⟨y,_,rfl⟩:=List.mem_map.1 h
    exact no10_line (by decide) _
  rcases List.mem_append.1 h with h | h
  · obtain ⟨y,_,rfl⟩:=List.mem_map.1 h
    exact no10_line (by decide) _
  rcases List.mem_append.1 h with h | h
  · obtain ⟨y,_,rfl⟩:=List.mem_map.1 h
    exact no10_lw (by decide) fun x hx=>by
      obtain ⟨n,_,rfl⟩:=List.mem_map.1 hx
      exact bits_no10 n
  rcases List.mem_cons.1 h with rfl | h
  · exact no10_line (by decide) _
  · exact no10_ends _ _ (by decide) x h
theorem sp_lines:∀ (l:List L) (r:L),(∀ x∈l,(10:UInt8) ∉ x)→sp 10 (l.flatMap (·++[10])++r)=l++sp 10 r
  | [],r,_=>by simp
  | x::l,r,h=>by
    rw [List.flatMap_cons,List.append_assoc,List.append_assoc,List.singleton_append,sp_app (h x (List.mem_cons_self ..)),sp_lines l r fun y hy=>h y (List.mem_cons_of_mem _ hy)]
    rfl
def inB (n:Int):Prop:=-big≤n∧n≤big
theorem all_num:∀ l:List Int,(∀ n∈l,inB n)→all num (l.map Lib.itoa)=some l
  | [],_=>rfl
  | n::l,h=>by
    rw [List.map_cons,all,num_some.2 ⟨rfl,h n (List.mem_cons_self ..)⟩,all_num l fun m hm=>h m (List.mem_cons_of_mem _ hm)]
theorem all_hex:∀ l:List Nat,(∀ n∈l,n<18446744073709551616)→all hex (l.map bits)=some l
  | [],_=>rfl
  | n::l,h=>by
    rw [List.map_cons,all,hex_some.2 ⟨rfl,h n (List.mem_cons_self ..)⟩,all_hex l fun m hm=>h m (List.mem_cons_of_mem _ hm)]
theorem cut_hit {w:L} {p r:List L} (hw:(32:UInt8) ∉ w) (hp:∀ x∈p,(32:UInt8) ∉ x) (hr:r≠[]):cut w (lw w p::r)=some (p,r):=by
  cases r with
  | nil=>exact (hr rfl).elim
  | cons y r=>rw [cut,sp_lw hw hp];exact if_pos rfl
theorem cut_no {w v:L} {p r:List L} (hv:(32:UInt8) ∉ v) (hp:∀ x∈p,(32:UInt8) ∉ x) (h:v≠w):cut w (lw v p::r)=none:=by
  cases r with
  | nil=>rfl
  | cons y r =>
    rw [cut,sp_lw hv hp]
    exact if_neg fun e=>h (by injection e)
theorem no32_itoa (l:List Int):∀ x∈l.map Lib.itoa,(32:UInt8) ∉ x:=fun x hx=>by
  obtain ⟨n,_,rfl⟩:=List.mem_map.1 hx
  exact itoa_no32 n
theorem no32_bits (l:List Nat):∀ x∈l.map bits,(32:UInt8) ∉ x:=fun x hx=>by
  obtain ⟨n,_,rfl⟩:=List.mem_map.1 hx
  exact bits_no32 n
theorem ints_hit {w:L} {l:List Int} {r:List L} {mo:Option Nat} (hw:(32:UInt8) ∉ w) (hl:∀ n∈l,inB n) (hm:mo.all (fun m=>decide (l.length=m))=true) (hr:r≠[]):ints w mo (lineB w l::r) = .ok l r:=by
  unfold ints lineB
  rw [cut_hit hw (no32_itoa l) hr]
  dsimp only
  rw [List.length_map,if_pos hm,all_num l hl]
theorem ints_no {w v:L} {l:List Int} {r:List L} {mo:Option Nat} (hv:(32:UInt8) ∉ v) (h:v≠w):ints w mo (lineB v l::r) = .no:=by
  unfold ints lineB
  rw [cut_no hv (no32_itoa l) h]
theorem ints_now {w:L} {l:List Nat} {r:List L} {mo:Option Nat} (h:wWeights≠w):ints w mo (wB l::r) = .no:=by
  unfold ints wB
  rw [cut_no (by decide) (no32_bits l) h]
theorem sets_hit {l:List Nat} {r:List L} (hl:∀ n∈l,n<18446744073709551616) (hr:r≠[]):sets (wB l::r) = .ok l r:=by
  unfold sets wB
  rw [cut_hit (by decide) (no32_bits l) hr]
  dsimp only
  rw [all_hex l hl]
theorem sets_no {v:L} {l:List Int} {r:List L} (hv:(32:UInt8) ∉ v) (h:v≠wWeights):sets (lineB v l::r) = .no:=by
  unfold sets lineB
  rw [cut_no hv (no32_itoa l) h]
theorem many_hit {α β:Type} {one:List L→I α} {f:α→β} {g:β→L} {h:β→α} {r:List L} (hr:r≠[]) (hno:one r = .no) (hfh:∀ y,f (h y)=y) :
    ∀ (l:List β) (k:Nat) (acc:List β) (n:Nat),(∀ y∈l,∀ q,q≠[]→one (g y::q) = .ok (h y) q)→l.length<k→many one f k acc (l.map g++r) n = .ok (acc++l) r (n+l.length)
  | [],0,acc,n,_,hk=>by simp at hk
  | [],k+1,acc,n,_,_=>by rw [List.map_nil,List.nil_append,many,hno];simp
  | y::l,0,acc,n,_,hk=>by simp at hk
  | y::l,k+1,acc,n,hone,hk=>by
    rw [List.map_cons,List.cons_append,many,hone y (List.mem_cons_self ..) _ (by simp [hr])]
    dsimp only
    rw [hfh,many_hit hr hno hfh l k (acc++[y]) (n+1) (fun z hz=>hone z (List.mem_cons_of_mem _ hz)) (by simpa using hk)]
    simp [Nat.add_assoc,Nat.add_comm 1]
structure Clean (c:Cfg):Prop where
  sw:inB c.sw
  links:∀ x∈c.links,∀ n∈x.l,inB n
  hosts:∀ x∈c.hosts,∀ n∈x.l,inB n
  weights:∀ l∈c.weights,∀ n∈l,n<18446744073709551616
  starts:∀ n∈c.starts,inB n
  ends:∀ n∈c.e,inB n
theorem must_hit {w:L} {l:List Int} {r:List L} {mo:Option Nat} {n:Nat} (hw:(32:UInt8) ∉ w) (hl:∀ n∈l,inB n) (hm:mo.all (fun m=>decide (l.length=m))=true) (hr:r≠[]):must w mo (lineB w l::r) n = .ok l r (n+1):=by
  unfold must
  rw [ints_hit hw hl hm hr]
theorem tails_hit {R:List L}:∀ (ws:List L) (ns:List Int) (acc:List Int) (n:Nat),ws.length=ns.length→(∀ w∈ws,(32:UInt8) ∉ w)→(∀ m∈ns,inB m)→R≠[]→tails ws acc (endsB ws ns++R) n = .ok (acc++ns) R (n+ns.length)
  | [],[],acc,n,_,_,_,_=>by simp [tails,endsB]
  | [],_::_,_,_,h,_,_,_=>by simp at h
  | _::_,[],_,_,h,_,_,_=>by simp at h
  | w::ws,m::ns,acc,n,hl,hw,hn,hR=>by
    rw [endsB,List.cons_append,tails,must_hit (hw w (List.mem_cons_self ..)) (fun x hx=>by rw [List.mem_singleton.1 hx];exact hn m (List.mem_cons_self ..)) rfl (by simp [hR])]
    show tails ws (acc++[m]) (endsB ws ns++R) (n+1)=_
    rw [tails_hit ws ns (acc++[m]) (n+1) (by simpa using hl) (fun v hv=>hw v (List.mem_cons_of_mem _ hv)) (fun x hx=>hn x (List.mem_cons_of_mem _ hx)) hR]
    simp [Nat.add_assoc,Nat.add_comm 1]
theorem tails_cut:∀ (ws:List L) (ns:List Int) (acc:List Int) (n:Nat),ws.length=ns.length→ws≠[]→(∀ w∈ws,(32:UInt8) ∉ w)→(∀ m∈ns,inB m)→∃ k,0<k∧tails ws acc (endsB ws ns) (n+1) = .bad k
  | [],_,_,_,_,h,_,_=>(h rfl).elim
  | w::ws,[],_,_,h,_,_,_=>by simp at h
  | [w],[m],acc,n,_,_,hw,hn=>by
    refine ⟨n+1,by omega,?_⟩
    show tails [w] acc [lineB w [m]] (n+1)=_
    rw [tails]
    have:must w (some 1) [lineB w [m]] (n+1) = .bad (n+1):=rfl
    rw [this];rfl
  | [w],_::_::_,_,_,h,_,_,_=>by simp at h
  | w::v::ws,[m],_,_,h,_,_,_=>by simp at h
  | w::v::ws,m::o::ns,acc,n,hl,_,hw,hn=>by
    rw [endsB,tails,must_hit (hw w (List.mem_cons_self ..)) (fun x hx=>by rw [List.mem_singleton.1 hx];exact hn m (List.mem_cons_self ..)) rfl (by rw [endsB];simp)]
    exact tails_cut (v::ws) (o::ns) (acc++[m]) (n+1) (by simpa using hl) (by simp) (fun u hu=>hw u (List.mem_cons_of_mem _ hu)) (fun x hx=>hn x (List.mem_cons_of_mem _ hx))
theorem lnk_l (x:Lk):link x.l=x:=rfl
theorem hst_l (x:Hs):host x.l=x:=rfl
theorem parse_to (c:Cfg) (h:Clean c) (T:List L) (hT:T≠[]):∃ n,parse (lineB wSwitches [c.sw]::(c.links.map (fun x=>lineB wLink x.l)++(c.hosts.map (fun x=>lineB wHost x.l)++(c.weights.map wB++(lineB wStarts c.starts::T))))) =
    bind (tails wEnds [] T (n+1)) fun f ls n=>done (cfg [c.sw] c.links c.hosts c.weights c.starts f) ls n:=by
  unfold parse
  rw [must_hit (by decide) (fun n hn=>by rw [List.mem_singleton.1 hn];exact h.sw) rfl (by simp)]
  have hS:∀ T,lineB wStarts c.starts::T≠[]:=fun T=>by simp
  have e1:∀ (w:L) (mo:Option Nat),wWeights≠w→wStarts≠w→ints w mo (c.weights.map wB++(lineB wStarts c.starts::T)) = .no:=fun w mo h1 h2=>by
    cases hw:c.weights with
    | nil=>exact ints_no (by decide) h2
    | cons x l=>exact ints_now h1
  have e2:ints wLink (some 6) (c.hosts.map (fun x=>lineB wHost x.l)++(c.weights.map wB++(lineB wStarts c.starts::T))) = .no:=by
    cases hh:c.hosts with
    | nil=>exact e1 _ _ (by decide) (by decide)
    | cons x l=>exact ints_no (by decide) (by decide)
  show ∃ n,bind (lnks _ 2) _=_
  unfold lnks
  rw [many_hit (f:=link) (g:=fun x=>lineB wLink x.l) (h:=Lk.l) (by simp) e2 lnk_l c.links _ [] 2 (fun y hy q hq=>ints_hit (by decide) (h.links y hy) rfl hq) (by simp;omega)]
  show ∃ n,bind (hsts _ _) _=_
  unfold hsts
  rw [many_hit (f:=host) (g:=fun x=>lineB wHost x.l) (h:=Hs.l) (by simp) (e1 _ _ (by decide) (by decide)) hst_l c.hosts _ [] _ (fun y hy q hq=>ints_hit (by decide) (h.hosts y hy) rfl hq) (by simp;omega)]
  show ∃ n,bind (wgts _ _) _=_
  unfold wgts
  rw [many_hit (f:=id) (g:=wB) (h:=id) (hS T) (sets_no (by decide) (by decide)) (fun _=>rfl) c.weights _ [] _ (fun y hy q hq=>sets_hit (h.weights y hy) hq) (by simp)]
  show ∃ n,bind (must wStarts none _ _) _=_
  rw [must_hit (by decide) h.starts rfl hT]
  exact ⟨_,rfl⟩
theorem cfg_e (c:Cfg):cfg [c.sw] c.links c.hosts c.weights c.starts c.e=c:=rfl
theorem parse_tl (c:Cfg) (h:Clean c) (R:List L) (hR:R≠[]):∃ n,parse (tl c++R)=done c R (n+1):=by
  have e:endsB wEnds c.e≠[]:=by unfold wEnds Cfg.e;simp [endsB]
  obtain ⟨n,hn⟩:=parse_to c h (endsB wEnds c.e++R) (by simp [hR])
  refine ⟨n+6,?_⟩
  unfold tl
  simp only [List.cons_append,List.append_assoc]
  rw [hn,tails_hit wEnds c.e [] (n+1) rfl (by decide) h.ends hR]
  show done (cfg _ _ _ _ _ c.e) R (n+1+6)=_
  rw [cfg_e]
theorem parse_cut (c:Cfg) (h:Clean c):∃ k,0<k∧parse (tl c) = .bad k:=by
  have e:endsB wEnds c.e≠[]:=by unfold wEnds Cfg.e;simp [endsB]
  obtain ⟨n,hn⟩:=parse_to c h (endsB wEnds c.e) e
  obtain ⟨k,h0,hk⟩:=tails_cut wEnds c.e [] n rfl (by decide) (by decide) h.ends
  refine ⟨k,h0,?_⟩
  unfold tl
  rw [hn,hk];rfl
theorem out_back (c:Cfg) (h:Clean c):out (text c)=(c,0,0):=by
  obtain ⟨n,hn⟩:=parse_tl c h [[]] (by simp)
  have:=sp_lines (tl c) [] (no10_tl c)
  rw [List.append_nil,← text_tl] at this
  unfold out
  rw [this,show sp 10 []=[[]] from rfl,hn]
  rfl
theorem out_more (c:Cfg) (h:Clean c) (m:L):(out (text c++(m++[10]))).2.2=10:=by
  have e:sp 10 (m++[10])≠[[]]:=by
    intro e
    have:=jn_sp 10 (m++[10])
    rw [e] at this
    simp [jn] at this
  obtain ⟨n,hn⟩:=parse_tl c h (sp 10 (m++[10])) (sp_ne _ _)
  unfold out
  rw [text_tl,sp_lines (tl c) _ (no10_tl c),hn]
  unfold done
  rw [if_neg e]
theorem drop_lines:∀ l:List L,l≠[]→(∀ x∈l,(10:UInt8) ∉ x)→sp 10 (l.flatMap (·++[10])).dropLast=l
  | [],h,_=>(h rfl).elim
  | [x],_,h=>by
    simp only [List.flatMap_cons,List.flatMap_nil,List.append_nil,List.dropLast_concat]
    exact sp_no (h x (List.mem_cons_self ..))
  | x::y::l,_,h=>by
    have ih:=drop_lines (y::l) (by simp) fun z hz=>h z (List.mem_cons_of_mem _ hz)
    rw [List.flatMap_cons,List.dropLast_append_of_ne_nil (by simp),List.append_assoc,List.singleton_append,sp_app (h x (List.mem_cons_self ..)),ih]
theorem out_cut (c:Cfg) (h:Clean c):(out (text c).dropLast).2.2=10:=by
  obtain ⟨k,h0,hk⟩:=parse_cut c h
  unfold out
  rw [text_tl,drop_lines (tl c) (by unfold tl;simp) (no10_tl c),hk]
end Su
end Go.Proofs.YtgphhbadnjfbjaaDoor
