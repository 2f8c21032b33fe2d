import Derived.Test.YtijkmhmgigaieaaRt1p
namespace Go.Proofs.Ytijkmhmgigaieaa
set_option linter.unusedVariables false
namespace Rt
open Tp (T Lk Hs)
def run (t:T) (r:List (List Int)) (h:Int):Nat→Int→Option Int
  | 0,a=>some a
  | n+1,a=>if come t r h a=true then none else (nxt t r a h).bind (run t r h n)
def stp (t:T) (r:List (List Int)) (h:Int):Nat→Int→Int × Bool
  | 0,a=>(a,come t r h a)
  | n+1,a=>if come t r h a=true then (a,false) else match nxt t r a h with
    | none=>(-1,false)
    | some b=>stp t r h n b
def rwk (t:T) (r:List (List Int)) (h sw:Int):Nat→Nat→List Int→List Int × Int
  | 0,n,out=>if (stp t r h n sw).1 = -1 then ([],13) else ([],12)
  | k+1,n,out=>if (stp t r h n sw).1 = -1 then ([],13) else if (stp t r h n sw).2=true then (out++[(stp t r h n sw).1],0) else rwk t r h sw k (n+1) (out++[(stp t r h n sw).1])
theorem run_snoc (t:T) (r:List (List Int)) (h:Int):∀ (n:Nat) (a:Int),run t r h (n+1) a=(run t r h n a).bind fun x=>if come t r h x=true then none else nxt t r x h
  | 0,a=>by
    show (if come t r h a=true then none else (nxt t r a h).bind (run t r h 0))=if come t r h a=true then none else nxt t r a h
    split
    · rfl
    · cases nxt t r a h<;>rfl
  | n+1,a=>by
    rw [run]
    conv=>rhs;rw [run]
    split
    · rfl
    · cases nxt t r a h with
      | none=>rfl
      | some b=>exact run_snoc t r h n b
theorem run_add (t:T) (r:List (List Int)) (h:Int):∀ (m n:Nat) (a x:Int),run t r h n a=some x→run t r h (n+m) a=run t r h m x
  | 0,n,a,x,e=>e
  | m+1,n,a,x,e=>by
    rw [show n+(m+1)=(n+m)+1 from rfl,run_snoc,run_add t r h m n a x e,← run_snoc]
theorem stp_run (t:T) (r:List (List Int)) (h:Int):∀ (n:Nat) (a x:Int),run t r h n a=some x→stp t r h n a=(x,come t r h x)
  | 0,a,x,e=>by cases e;rfl
  | n+1,a,x,e=>by
    rw [run] at e
    rw [stp]
    split at e
    · cases e
    · rename_i hc
      rw [if_neg hc]
      cases hn:nxt t r a h with
      | none=>rw [hn] at e;cases e
      | some b=>rw [hn] at e;exact stp_run t r h n b x e
theorem stp_none (t:T) (r:List (List Int)) (h:Int):∀ (n:Nat) (a x:Int),run t r h n a=some x→come t r h x=false→nxt t r x h=none→stp t r h (n+1) a=(-1,false)
  | 0,a,x,e,hc,hn=>by
    cases e
    rw [stp,hc,hn]
    rfl
  | n+1,a,x,e,hc,hn=>by
    rw [run] at e
    rw [stp]
    split at e
    · cases e
    · rename_i hc2
      rw [if_neg hc2]
      cases hn2:nxt t r a h with
      | none=>rfl
      | some b=>exact stp_none t r h n b x (by rw [hn2] at e;exact e) hc hn
theorem run_back {t:T} {r:List (List Int)} {h:Int} {n:Nat} {a x:Int} (e:run t r h (n+1) a=some x):∃ y,run t r h n a=some y∧come t r h y=false:=by
  rw [run_snoc] at e
  cases hy:run t r h n a with
  | none=>rw [hy] at e;cases e
  | some y =>
    rw [hy] at e
    refine ⟨y,rfl,?_⟩
    cases hc:come t r h y with
    | false=>rfl
    | true =>
      have e2:(if come t r h y=true then none else nxt t r y h)=some x:=e
      rw [if_pos hc] at e2
      cases e2
theorem run_cyc {t:T} {r:List (List Int)} {h a x:Int} {j n:Nat} (hj:j<n) (e1:run t r h j a=some x) (e2:run t r h n a=some x):∀ m,∃ y,run t r h m a=some y:=by
  intro m
  induction m using Nat.strongRecOn with
  | _ m ih =>
    by_cases hm:m≤n
    · have key:∀ d m,m+d=n→∃ y,run t r h m a=some y:=fun d=>by
        induction d with
        | zero=>exact fun m e=>⟨x,by rw [show m=n by omega];exact e2⟩
        | succ d ihd =>
          intro m e
          obtain ⟨y,hy⟩:=ihd (m+1) (by omega)
          obtain ⟨z,hz,_⟩:=run_back hy
          exact ⟨z,hz⟩
      exact key (n - m) m (by omega)
    · obtain ⟨y,hy⟩:=ih (j+(m - n)) (by omega)
      rw [run_add t r h (m - n) j a x e1] at hy
      refine ⟨y,?_⟩
      rw [show m=n+(m - n) by omega,run_add t r h (m - n) n a x e2]
      exact hy
theorem rwk_cyc {t:T} {r:List (List Int)} {h sw:Int} (hin:∀ m y,run t r h m sw=some y→0≤y) (hall:∀ m,∃ y,run t r h m sw=some y):∀ (k n:Nat) (out:List Int),rwk t r h sw k n out=([],12)
  | 0,n,out=>by
    obtain ⟨y,hy⟩:=hall n
    have:=hin n y hy
    rw [rwk,stp_run t r h n sw y hy,if_neg (by show ¬y = -1;omega)]
  | k+1,n,out=>by
    obtain ⟨y2,hy2⟩:=hall (n+1)
    obtain ⟨y,hy,hc⟩:=run_back hy2
    have:=hin n y hy
    rw [rwk,stp_run t r h n sw y hy,if_neg (by show ¬y = -1;omega),if_neg (by show ¬come t r h y=true;rw [hc];decide)]
    exact rwk_cyc hin hall k (n+1) _
theorem rinside {t:T} {r:List (List Int)} {h sw:Int} (ht:Tp.right t=true) (h1:0≤sw) (h2:sw<t.n):∀ m y,run t r h m sw=some y→0≤y∧y<t.n
  | 0,y,e=>by cases e;exact ⟨h1,h2⟩
  | m+1,y,e=>by
    rw [run_snoc] at e
    cases hz:run t r h m sw with
    | none=>rw [hz] at e;cases e
    | some z =>
      rw [hz] at e
      have e2:(if come t r h z=true then none else nxt t r z h)=some y:=e
      split at e2
      · cases e2
      · exact nxt_in ht e2
theorem wk_rwk {t:T} {r:List (List Int)} {h sw:Int} (ht:Tp.right t=true) (h1:0≤sw) (h2:sw<t.n):∀ (k n f:Nat) (l:List Int) (x:Int),(n:Int)+k=t.n→n+f=10→l.length=n→l.Nodup→(∀ i y,(l++[x])[i]?=some y→run t r h i sw=some y) →
    wk t r h f (l++[x])=rwk t r h sw k n l:=by
  intro k
  induction k with
  | zero =>
    intro n f l x hk hf hl hnd hrun
    have hin:=rinside (r:=r) (h:=h) ht h1 h2
    have hx:run t r h n sw=some x:=hrun n x (by rw [List.getElem?_append_right (by omega),hl,Nat.sub_self];rfl)
    have htw:twice (l++[x])=true:=by
      rw [twice_iff]
      refine Classical.byContradiction fun hno=>?_
      have hnd2:(l++[x]).Nodup:=by
        rw [List.nodup_append]
        exact ⟨hnd,by simp,fun a ha b hb e=>by rw [List.mem_singleton] at hb;subst hb;subst e;exact hno ha⟩
      have hlen:=nodup_len n (l++[x]) hnd2 fun y hy=>by
        obtain ⟨i,hi⟩:=List.getElem?_of_mem hy
        have:=hin i y (hrun i y hi)
        omega
      rw [List.length_append,List.length_singleton] at hlen
      omega
    have hfp:∃ g,f=g+1:=⟨f - 1,by have:=(topo_parts ht).1.2;omega⟩
    obtain ⟨g,rfl⟩:=hfp
    have:=(hin n x hx).1
    rw [wk,if_pos htw,rwk,stp_run t r h n sw x hx,if_neg (by show ¬x = -1;omega)]
  | succ k ih =>
    intro n f l x hk hf hl hnd hrun
    have hin:=rinside (r:=r) (h:=h) ht h1 h2
    have hx:run t r h n sw=some x:=hrun n x (by rw [List.getElem?_append_right (by omega),hl,Nat.sub_self];rfl)
    have hfp:∃ g,f=g+1:=⟨f - 1,by have:=(topo_parts ht).1.2;omega⟩
    obtain ⟨g,rfl⟩:=hfp
    have hx0:=(hin n x hx).1
    cases htw:twice (l++[x]) with
    | true =>
      rw [wk,if_pos htw]
      have hm:=twice_iff.1 htw
      obtain ⟨j,hj⟩:=List.getElem?_of_mem hm
      have hjl:=(List.getElem?_eq_some_iff.1 hj).1
      have hrj:=hrun j x (by rw [List.getElem?_append_left hjl];exact hj)
      exact (rwk_cyc (fun m y e=>(hin m y e).1) (run_cyc (by omega) hrj hx) _ _ _).symm
    | false =>
      rw [wk,if_neg (by rw [htw];decide),rwk,stp_run t r h n sw x hx,if_neg (by show ¬x = -1;omega)]
      rw [List.getLast?_append,List.getLast?_singleton,Option.some_or]
      dsimp only
      cases hc:come t r h x with
      | true=>rw [if_pos rfl,if_pos rfl]
      | false =>
        rw [if_neg (by decide),if_neg (by decide)]
        cases hn:nxt t r x h with
        | none =>
          have hs:=stp_none t r h n sw x hx hc hn
          dsimp only
          cases k with
          | zero=>rw [rwk,hs,if_pos rfl]
          | succ k=>rw [rwk,hs,if_pos rfl]
        | some b =>
          dsimp only
          have hnm:x ∉ l:=fun hm=>by
            rw [twice_iff.2 hm] at htw
            cases htw
          have hrb:run t r h (n+1) sw=some b:=by
            rw [run_snoc,hx]
            show (if come t r h x=true then none else nxt t r x h)=some b
            rw [hc,hn]
            rfl
          refine ih (n+1) g (l++[x]) b (by omega) (by omega) (by rw [List.length_append,List.length_singleton];omega) ?_ ?_
          · rw [List.nodup_append]
            exact ⟨hnd,by simp,fun a ha c hb e=>by rw [List.mem_singleton] at hb;subst hb;subst e;exact hnm ha⟩
          · intro i y hy
            by_cases hi:i<n+1
            · rw [List.getElem?_append_left (by rw [List.length_append,List.length_singleton];omega)] at hy
              exact hrun i y hy
            · have hlt:=(List.getElem?_eq_some_iff.1 hy).1
              rw [List.length_append,List.length_append,List.length_singleton,List.length_singleton] at hlt
              have hie:i=n+1:=by omega
              subst hie
              rw [List.getElem?_append_right (by rw [List.length_append,List.length_singleton];omega)] at hy
              rw [List.length_append,List.length_singleton,hl,Nat.sub_self] at hy
              cases hy
              exact hrb
def rwalk (t:T) (r:List (List Int)) (sw h:Int):List Int × Int :=
  if prt r sw h=none∨right t r=false then ([],2) else rwk t r h sw t.n.toNat 0 []
theorem rwalk_eq (t:T) (r:List (List Int)) (sw h:Int):rwalk t r sw h=walk t r sw h:=by
  unfold rwalk walk
  split
  · rfl
  · rename_i hno
    have hr:right t r=true:=by
      cases hb:right t r with
      | true=>rfl
      | false=>exact (hno (.inr hb)).elim
    obtain ⟨h1,h2,_⟩:=right_parts hr
    have hb:=(topo_parts h1).1
    have hp:∃ p,prt r sw h=some p:=by
      cases hq:prt r sw h with
      | none=>exact (hno (.inl hq)).elim
      | some p=>exact ⟨p,rfl⟩
    obtain ⟨p,hp⟩:=hp
    obtain ⟨row,h3,h4,h5,h6⟩:=prt_in hp
    have h7:=(List.getElem?_eq_some_iff.1 h5).1
    exact (wk_rwk h1 h3 (by omega) t.n.toNat 0 10 [] sw (by omega) (by omega) rfl List.nodup_nil fun i y hy=>by
      cases i with
      | zero =>
        have e:sw=y:=by simpa using hy
        rw [← e]
        rfl
      | succ i=>simp at hy).symm
end Rt
end Go.Proofs.Ytijkmhmgigaieaa
