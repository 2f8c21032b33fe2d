import Derived.Test.YtgphhbadnjfbjaaDoorNumP
import Derived.Lib.AtoiAllCases
namespace Go.Proofs.YtgphhbadnjfbjaaDoor
set_option maxRecDepth 20000
set_option linter.unusedVariables false
namespace Su
abbrev L:=List UInt8
def sp (c:UInt8):L→List L
  | []=>[[]]
  | x::r=>if x=c then []::sp c r else match sp c r with
    | []=>[[x]]
    | a::l=>(x::a)::l
def jn (c:UInt8):List L→L
  | []=>[]
  | [a]=>a
  | a::b::l=>a++c::jn c (b::l)
theorem sp_ne (c:UInt8):∀ s:L,sp c s≠[]
  | []=>by simp [sp]
  | x::r=>by
    rw [sp]
    split
    · simp
    · split<;>simp
theorem sp_eq (c:UInt8) (r:L):sp c (c::r)=[]::sp c r:=by rw [sp,if_pos rfl]
theorem sp_cons {c x:UInt8} (h:x≠c) {r a:L} {l:List L} (e:sp c r=a::l):sp c (x::r)=(x::a)::l:=by
  rw [sp,if_neg h,e]
theorem jn_sp (c:UInt8):∀ s:L,jn c (sp c s)=s
  | []=>rfl
  | x::r=>by
    have ih:=jn_sp c r
    by_cases h:x=c
    · subst h
      rw [sp_eq]
      cases e:sp x r with
      | nil=>exact (sp_ne x r e).elim
      | cons a l=>rw [e] at ih;rw [jn,ih];rfl
    · cases e:sp c r with
      | nil=>exact (sp_ne c r e).elim
      | cons a l =>
        rw [sp_cons h e]
        rw [e] at ih
        cases l with
        | nil=>rw [jn] at ih ⊢;rw [ih]
        | cons b l=>rw [jn] at ih ⊢;rw [← ih];rfl
theorem sp_app {c:UInt8} {a:L} (h:c ∉ a) (s:L):sp c (a++c::s)=a::sp c s:=by
  induction a with
  | nil=>exact sp_eq c s
  | cons x a ih =>
    have hx:x≠c:=fun e=>h (by rw [e];exact List.mem_cons_self ..)
    exact sp_cons hx (ih fun e=>h (List.mem_cons_of_mem _ e))
theorem sp_no {c:UInt8} {a:L} (h:c ∉ a):sp c a=[a]:=by
  induction a with
  | nil=>rfl
  | cons x a ih =>
    have hx:x≠c:=fun e=>h (by rw [e];exact List.mem_cons_self ..)
    exact sp_cons hx (ih fun e=>h (List.mem_cons_of_mem _ e))
theorem sp_jn (c:UInt8):∀ l:List L,l≠[]→(∀ a∈l,c ∉ a)→sp c (jn c l)=l
  | [],h,_=>(h rfl).elim
  | [a],_,h=>sp_no (h a (List.mem_cons_self ..))
  | a::b::l,_,h=>by
    rw [jn,sp_app (h a (List.mem_cons_self ..)),sp_jn c (b::l) (by simp) fun x hx=>h x (List.mem_cons_of_mem _ hx)]
theorem sp_index (c:UInt8):∀ s:L,(Lib.indexByte s c = -1∧c ∉ s∧sp c s=[s])∨(∃ i:Nat,Lib.indexByte s c=i∧i<s.length∧sp c s=s.take i::sp c (s.drop (i+1)))
  | []=>.inl ⟨rfl,by simp,rfl⟩
  | x::r=>by
    rw [Lib.indexByte]
    by_cases h:x=c
    · subst h
      right
      refine ⟨0,by simp,by simp,?_⟩
      rw [sp_eq];rfl
    · rw [if_neg (by simpa using h)]
      rcases sp_index c r with ⟨h1,h2,h3⟩ | ⟨i,h1,h2,h3⟩
      · left
        refine ⟨by rw [h1];rfl,?_,sp_cons h h3⟩
        intro h'
        rcases List.mem_cons.1 h' with h' | h'
        · exact h h'.symm
        · exact h2 h'
      · right
        refine ⟨i+1,?_,by simpa using h2,sp_cons h h3⟩
        rw [h1,if_neg (by simp)]
        rfl
theorem sp_len (c:UInt8):∀ s:L,(sp c s).length≤s.length+1
  | []=>by simp [sp]
  | x::r=>by
    have ih:=sp_len c r
    by_cases h:x=c
    · subst h;rw [sp_eq];simp;omega
    · cases e:sp c r with
      | nil=>exact (sp_ne c r e).elim
      | cons a l=>rw [sp_cons h e];rw [e] at ih;simp at ih ⊢;omega
theorem sp_sub (c:UInt8):∀ (s a:L),a∈sp c s→a.length≤s.length
  | [],a,h=>by rw [sp,List.mem_singleton] at h;rw [h];exact Nat.le_refl _
  | x::r,a,h=>by
    have ih:=sp_sub c r
    by_cases hx:x=c
    · subst hx
      rw [sp_eq] at h
      rcases List.mem_cons.1 h with rfl | h
      · simp
      · have:=ih a h;simp;omega
    · cases e:sp c r with
      | nil=>exact (sp_ne c r e).elim
      | cons b l =>
        rw [sp_cons hx e] at h
        rw [e] at ih
        rcases List.mem_cons.1 h with rfl | h
        · have:=ih b (List.mem_cons_self ..);simp;omega
        · have:=ih a (List.mem_cons_of_mem _ h);simp;omega
def big:Int:=1125899906842624
def num (s:L):Option Int:=match Lib.atoiAll s with
  | .ok v=>if Lib.itoa v=s∧-big≤v∧v≤big then some v else none
  | _=>none
theorem atoi_itoa {n:Int} (h0 : -9223372036854775808<n) (h:n<9223372036854775808):Lib.atoiAll (Lib.itoa n) = .ok n:=by
  rcases Int.lt_or_le n 0 with hn | hn
  · obtain ⟨u,rfl⟩:∃ u:Nat,n = -(u:Int):=⟨n.natAbs,by omega⟩
    rw [Lib.itoa_neg u (by omega),Lib.atoiAll_minus]
    unfold Lib.parseMag
    rw [if_neg (Num.dec_ne u),Num.uint_dec u (by omega)]
    unfold Lib.signed
    dsimp only
    rw [if_neg (by omega)]
  · obtain ⟨u,rfl⟩:=Int.eq_ofNat_of_zero_le hn
    rw [Lib.itoa_nonneg u]
    have hd:=Num.dec_digs u
    have hu:=Num.uint_dec u (by omega)
    cases hl:Lib.decDigits u with
    | nil=>exact (Num.dec_ne u hl).elim
    | cons c r =>
      have hc:=hd c (by rw [hl];simp)
      rw [hl] at hu
      rw [Lib.atoiAll_plain c r (by omega) (by omega)]
      unfold Lib.parseMag
      rw [if_neg (by simp),hu]
      unfold Lib.signless
      dsimp only
      rw [if_neg (by omega)]
theorem num_some {s:L} {n:Int}:num s=some n↔(Lib.itoa n=s∧-big≤n∧n≤big):=by
  unfold num
  constructor
  · intro h
    split at h
    · split at h
      · rename_i hc
        cases h;exact hc
      · cases h
    · cases h
  · rintro ⟨rfl,h1,h2⟩
    rw [atoi_itoa (by unfold big at *;omega) (by unfold big at *;omega)]
    exact if_pos ⟨rfl,h1,h2⟩
def hx (d:Nat):UInt8:=if d<10 then UInt8.ofNat (48+d) else UInt8.ofNat (87+d)
def bitsN:Nat→Nat→L
  | 0,_=>[]
  | k+1,n=>bitsN k (n / 16)++[hx (n % 16)]
def bits (n:Nat):L:=bitsN 16 n
def hv (c:UInt8):Nat:=if 48≤c.toNat∧c.toNat≤57 then c.toNat - 48 else if 97≤c.toNat∧c.toNat≤102 then c.toNat - 87 else 0
def hval (s:L):Nat:=s.foldl (fun n c=>16*n+hv c) 0
theorem hv_hx:∀ d:Nat,d<16→hv (hx d)=d:=by decide +kernel
theorem bitsN_len:∀ k n:Nat,(bitsN k n).length=k
  | 0,_=>rfl
  | k+1,n=>by rw [bitsN,List.length_append,bitsN_len k];rfl
theorem hval_snoc (t:L) (c:UInt8):hval (t++[c])=16*hval t+hv c:=by simp [hval]
theorem hval_bits:∀ k n:Nat,n<16 ^ k→hval (bitsN k n)=n
  | 0,n,h=>by rw [Nat.pow_zero] at h;show 0=n;omega
  | k+1,n,h=>by
    rw [bitsN,hval_snoc,hval_bits k (n / 16) (by rw [Nat.pow_succ] at h;omega),hv_hx _ (Nat.mod_lt _ (by decide))]
    omega
def hex (s:L):Option Nat:=if s.length=16∧bits (hval s)=s then some (hval s) else none
theorem hval_lt:∀ (k:Nat) (s:L),s.length≤k→hval s<16 ^ s.length:=by
  intro k
  induction k with
  | zero=>intro s h;cases s with
    | nil=>decide
    | cons=>simp at h
  | succ k ih =>
    intro s h
    rcases List.eq_nil_or_concat s with rfl | ⟨t,c,rfl⟩
    · decide
    · rw [List.concat_eq_append,List.length_append] at h
      simp only [List.length_cons,List.length_nil] at h
      rw [List.concat_eq_append,hval_snoc,List.length_append]
      have:=ih t (by omega)
      have hc:hv c<16:=by unfold hv;split<;>(try split)<;>omega
      simp only [List.length_cons,List.length_nil,Nat.zero_add,Nat.pow_succ]
      omega
theorem hex_some {s:L} {n:Nat}:hex s=some n↔(bits n=s∧n<18446744073709551616):=by
  unfold hex
  constructor
  · intro h
    split at h
    · rename_i hc
      cases h
      refine ⟨hc.2,?_⟩
      have:=hval_lt 16 s (by omega)
      rw [hc.1] at this
      exact this
    · cases h
  · rintro ⟨rfl,h⟩
    have hv:=hval_bits 16 n h
    have hl:=bitsN_len 16 n
    unfold bits
    rw [hv,if_pos ⟨hl,rfl⟩]
structure Lk where
  (a pa b pb lo hi:Int)
deriving DecidableEq
structure Hs where
  (at_ port:Int)
deriving DecidableEq
structure Cfg where
  sw:Int
  links:List Lk
  hosts:List Hs
  weights:List (List Nat)
  starts:List Int
  (rate room wide lead margin retry:Int)
deriving DecidableEq
def none40:Cfg:=⟨0,[],[],[],[],0,0,0,0,0,0⟩
def Lk.l (x:Lk):List Int:=[x.a,x.pa,x.b,x.pb,x.lo,x.hi]
def Hs.l (x:Hs):List Int:=[x.at_,x.port]
def Cfg.e (c:Cfg):List Int:=[c.rate,c.room,c.wide,c.lead,c.margin,c.retry]
def wSwitches:L:=[115,119,105,116,99,104,101,115]
def wLink:L:=[108,105,110,107]
def wHost:L:=[104,111,115,116]
def wWeights:L:=[119,101,105,103,104,116,115]
def wStarts:L:=[115,116,97,114,116,115]
def wEnds:List L:=[[114,97,116,101],[114,111,111,109],[119,105,100,101],[108,101,97,100],[109,97,114,103,105,110],[114,101,116,114,121]]
def nums (l:List Int):L:=l.flatMap fun n=>32::Lib.itoa n
def line (w:L) (l:List Int):L:=w++nums l++[10]
def hexs (l:List Nat):L:=l.flatMap fun n=>32::bits n
def wline (l:List Nat):L:=wWeights++hexs l++[10]
def endsT:List L→List Int→L
  | w::ws,n::ns=>line w [n]++endsT ws ns
  | _,_=>[]
def text (c:Cfg):L:=line wSwitches [c.sw]++(c.links.flatMap fun x=>line wLink x.l)++(c.hosts.flatMap fun x=>line wHost x.l)++c.weights.flatMap wline++line wStarts c.starts++endsT wEnds c.e
inductive I (α:Type) where
  | no
  | bad
  | ok (x:α) (ls:List L)
def cut (w:L):List L→Option (List L × List L)
  | x::y::r=>if (sp 32 x).head?=some w then some ((sp 32 x).tail,y::r) else none
  | _=>none
def all {α:Type} (f:L→Option α):List L→Option (List α)
  | []=>some []
  | x::r=>match f x with
    | none=>none
    | some a=>match all f r with
      | none=>none
      | some l=>some (a::l)
def ints (w:L) (many:Option Nat) (ls:List L):I (List Int):=match cut w ls with
  | none=>.no
  | some (p,r)=>if many.all (fun m=>decide (p.length=m))=true then (match all num p with
      | none=>.bad
      | some xs=>.ok xs r) else .bad
def sets (ls:List L):I (List Nat):=match cut wWeights ls with
  | none=>.no
  | some (p,r)=>match all hex p with
    | none=>.bad
    | some xs=>.ok xs r
def link (l:List Int):Lk:=⟨l.getD 0 0,l.getD 1 0,l.getD 2 0,l.getD 3 0,l.getD 4 0,l.getD 5 0⟩
def host (l:List Int):Hs:=⟨l.getD 0 0,l.getD 1 0⟩
inductive M (α:Type) where
  | bad (n:Nat)
  | ok (x:α) (ls:List L) (n:Nat)
def many {α β:Type} (one:List L→I α) (f:α→β):Nat→List β→List L→Nat→M (List β)
  | 0,_,_,n=>.bad n
  | k+1,acc,ls,n=>match one ls with
    | .no=>.ok acc ls n
    | .bad=>.bad n
    | .ok x r=>many one f k (acc++[f x]) r (n+1)
def must (w:L) (m:Option Nat) (ls:List L) (n:Nat):M (List Int):=match ints w m ls with
  | .ok x r=>.ok x r (n+1)
  | _=>.bad n
def bind {α β:Type} (x:M α) (f:α→List L→Nat→M β):M β:=match x with
  | .bad n=>.bad n
  | .ok a ls n=>f a ls n
def tails:List L→List Int→List L→Nat→M (List Int)
  | [],acc,ls,n=>.ok acc ls n
  | w::ws,acc,ls,n=>bind (must w (some 1) ls n) fun x r k=>tails ws (acc++[x.getD 0 0]) r k
def done (c:Cfg) (ls:List L) (n:Nat):M Cfg:=if ls=[[]] then .ok c ls n else .bad n
def cfg (sw:List Int) (links:List Lk) (hosts:List Hs) (ws:List (List Nat)) (st:List Int) (e:List Int):Cfg :=
  ⟨sw.getD 0 0,links,hosts,ws,st,e.getD 0 0,e.getD 1 0,e.getD 2 0,e.getD 3 0,e.getD 4 0,e.getD 5 0⟩
def lnks (ls:List L) (n:Nat):M (List Lk):=many (ints wLink (some 6)) link ls.length [] ls n
def hsts (ls:List L) (n:Nat):M (List Hs):=many (ints wHost (some 2)) host ls.length [] ls n
def wgts (ls:List L) (n:Nat):M (List (List Nat)):=many sets id ls.length [] ls n
def parse (ls:List L):M Cfg :=
  bind (must wSwitches (some 1) ls 1) fun a ls n=>bind (lnks ls n) fun b ls n=>bind (hsts ls n) fun c ls n=>bind (wgts ls n) fun d ls n =>
    bind (must wStarts none ls n) fun e ls n=>bind (tails wEnds [] ls n) fun f ls n=>done (cfg a b c d e f) ls n
def out (s:L):Cfg × Nat × Int:=match parse (sp 10 s) with
  | .ok c _ _=>(c,0,0)
  | .bad n=>(none40,n,10)
end Su
end Go.Proofs.YtgphhbadnjfbjaaDoor
