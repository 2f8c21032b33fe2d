import Derived.Test.YtaojbkphcnailaaDoorJ4
import Derived.Test.YtaojbkphcnailaaDoorJ21
namespace Go.Proofs.YtaojbkphcnailaaDoor
open Go.Sx
set_option maxRecDepth 20000
set_option linter.unusedVariables false
namespace Ps
open Lx (B toks nextB skip isL isD isS isSp)
def bs (t:List UInt8):Option (List B):=(toks t).map (List.map Prod.fst)
theorem bs_skip {t y:List UInt8} (h:skip t=skip y):bs t=bs y:=by unfold bs;rw [Lx.toks_skip h]
theorem skip_sp (u:List UInt8):skip (32::u)=skip u:=by
  have e:(32::u).dropWhile isSp=u.dropWhile isSp:=List.dropWhile_cons_of_pos (by decide)
  cases hu:u.dropWhile isSp with
  | nil=>rw [Lx.skip_nil (e.trans hu),Lx.skip_nil hu]
  | cons c r=>rw [Lx.skip_cons (e.trans hu),Lx.skip_cons hu]
theorem bs_sp (u:List UInt8):bs (32::u)=bs u:=bs_skip (skip_sp u)
theorem bs_nil:bs []=some []:=by unfold bs;rw [Lx.toks_nil (Lx.skip_nil rfl)];rfl
theorem bs_tok {c:UInt8} {r:List UInt8} {b:B} {n:Nat} (h1:isSp c=false) (h2:c≠35) (h:nextB (c::r)=some (b,n)):bs (c::r)=(bs ((c::r).drop n)).map (b::·):=by
  have hs:=Lx.skip_id (r:=r) h1 h2
  unfold bs
  rw [Lx.toks_cons (by rw [hs];exact List.cons_ne_nil _ _) (by rw [hs];exact h),hs]
  cases toks ((c::r).drop n)<;>rfl
def free (y:List UInt8):Prop:=∀ c r,y=c::r→isL c=false∧isD c=false
theorem free_nil:free []:=fun c r h=>by cases h
theorem free_sp (y:List UInt8):free (32::y):=fun c r h=>by injection h with h _;rw [← h];decide
theorem free_shut (y:List UInt8):free (41::y):=fun c r h=>by injection h with h _;rw [← h];decide
theorem free_semi (y:List UInt8):free (59::y):=fun c r h=>by injection h with h _;rw [← h];decide
theorem letter_sp {c:UInt8} (h:isL c=true):isSp c=false∧c≠35:=by
  unfold isL at h
  simp only [Bool.and_eq_true,decide_eq_true_eq] at h
  constructor
  · unfold isSp
    cases hc:(c == 32||c == 9||c == 10) with
    | false=>rfl
    | true =>
      simp only [Bool.or_eq_true,beq_iff_eq] at hc
      rcases hc with (rfl | rfl) | rfl<;>revert h<;>decide
  · rintro rfl
    revert h;decide
theorem digit_sp {c:UInt8} (h:isD c=true):isSp c=false∧c≠35:=by
  unfold isD at h
  simp only [Bool.and_eq_true,decide_eq_true_eq] at h
  constructor
  · unfold isSp
    cases hc:(c == 32||c == 9||c == 10) with
    | false=>rfl
    | true =>
      simp only [Bool.or_eq_true,beq_iff_eq] at hc
      rcases hc with (rfl | rfl) | rfl<;>revert h<;>decide
  · rintro rfl
    revert h;decide
theorem digit_letter {c:UInt8} (h:isD c=true):isL c=false:=by
  unfold isD at h
  unfold isL
  simp only [Bool.and_eq_true,decide_eq_true_eq] at h
  rw [decide_eq_false (by omega),Bool.false_and]
theorem bs_word {w y:List UInt8} (hw:∀ c∈w,isL c=true) (hne:w≠[]) (hy:free y):bs (w++y)=(bs y).map (⟨1,0,w⟩::·):=by
  obtain ⟨c,r,rfl⟩:=List.exists_cons_of_ne_nil hne
  have hc:=hw c (by simp)
  obtain ⟨h1,h2⟩:=letter_sp hc
  have ht:=Lx.tw_ext (p:=isL) (a:=c::r) (r:=y) hw fun c t e=>(hy c t e).1
  have hn:nextB (c::(r++y))=some (⟨1,0,c::r⟩,(c::r).length):=by
    rw [Lx.nextB_eq,if_pos hc]
    have:=ht.1
    rw [List.cons_append] at this
    rw [this]
  rw [List.cons_append,bs_tok h1 h2 hn,← List.cons_append,List.drop_left]
theorem bs_num {v:Int} {y:List UInt8} (h0:0≤v) (h9:v≤255) (hy:free y):bs (Lib.itoa v++y)=(bs y).map (⟨2,v,[]⟩::·):=by
  obtain ⟨n,rfl⟩:=Int.eq_ofNat_of_zero_le h0
  have hall:∀ n:Nat,n<256→(∀ c∈Lib.itoa (n:Int),isD c=true)∧Lib.itoa (n:Int)≠[]∧¬ (3<(Lib.itoa (n:Int)).length∨(1<(Lib.itoa (n:Int)).length∧(Lib.itoa (n:Int)).head?=some 48))∧Lx.num (Lib.itoa (n:Int))=n:=by decide +kernel
  obtain ⟨hd,hne,hok,hnum⟩:=hall n (by omega)
  have hw:∀ w:List UInt8,(∀ c∈w,isD c=true)→w≠[]→¬ (3<w.length∨(1<w.length∧w.head?=some 48))→Lx.num w=n→bs (w++y)=(bs y).map (⟨2,(n:Int),[]⟩::·):=fun w hd hne hok hnum=>by
    obtain ⟨c,r,rfl⟩:=List.exists_cons_of_ne_nil hne
    have hc:=hd c (by simp)
    obtain ⟨h1,h2⟩:=digit_sp hc
    have ht:=(Lx.tw_ext (p:=isD) (a:=c::r) (r:=y) hd fun c t e=>(hy c t e).2).1
    rw [List.cons_append] at ht
    have hl:=digit_letter hc
    have hn:nextB (c::(r++y))=some (⟨2,(n:Int),[]⟩,(c::r).length):=by
      rw [Lx.nextB_eq,if_neg (by rw [hl];decide),if_pos hc,ht,if_neg (fun h=>hok (by simpa using h)),hnum]
    rw [List.cons_append,bs_tok h1 h2 hn,← List.cons_append,List.drop_left]
  exact hw _ hd hne hok hnum
theorem bs_sign {c:UInt8} (y:List UInt8) (h:isS c=true):bs (c::y)=(bs y).map (⟨3,0,[c]⟩::·):=by
  have hc:c=40∨c=41∨c=59∨c=124∨c=61:=by
    unfold isS at h
    simpa [or_assoc] using h
  have hn:nextB (c::y)=some (⟨3,0,[c]⟩,1):=by
    rw [Lx.nextB_eq,if_neg (by rcases hc with rfl | rfl | rfl | rfl | rfl<;>decide),if_neg (by rcases hc with rfl | rfl | rfl | rfl | rfl<;>decide),if_neg (fun e=>by rw [e.1] at h;revert h;decide),if_pos h]
  rw [bs_tok (by rcases hc with rfl | rfl | rfl | rfl | rfl<;>decide) (by rcases hc with rfl | rfl | rfl | rfl | rfl<;>decide) hn]
  rfl
theorem bs_set (y:List UInt8):bs (58::61::y)=(bs y).map (⟨3,0,[58,61]⟩::·):=by
  have hn:nextB (58::61::y)=some (⟨3,0,[58,61]⟩,2):=by
    rw [Lx.nextB_eq,if_neg (by decide),if_neg (by decide),if_pos ⟨rfl,rfl⟩]
  rw [bs_tok (by decide) (by decide) hn]
  rfl
def Has (t:List UInt8) (L:List B):Prop:=∀ y,free y→bs (t++y)=(bs y).map (L++·)
theorem map_map2 {o:Option (List B)} {a b:List B}:(o.map (b++·)).map (a++·)=o.map ((a++b)++·):=by
  cases o with
  | none=>rfl
  | some l=>simp
theorem Has.cat {t u:List UInt8} {L M:List B} (h:Has t L) (h2:Has u M) (hu:∀ y,free y→free (u++y)):Has (t++u) (L++M):=fun y hy=>by
  rw [List.append_assoc,h _ (hu y hy),h2 y hy,map_map2]
theorem has_nil:Has [] []:=fun y hy=>by
  rw [List.nil_append]
  cases bs y<;>rfl
theorem has_word {w:List UInt8} (hw:∀ c∈w,isL c=true) (hne:w≠[]):Has w [⟨1,0,w⟩]:=fun y hy=>bs_word hw hne hy
end Ps
end Go.Proofs.YtaojbkphcnailaaDoor
namespace Go.Proofs.YtaojbkphcnailaaDoor
open Go.Sx
set_option maxRecDepth 20000
set_option linter.unusedVariables false
namespace Ps
open Lx (B toks nextB skip isL isD isS isSp)
def W (s:List UInt8):B:=⟨1,0,s⟩
def S (s:List UInt8):B:=⟨3,0,s⟩
def Nm (v:Int):B:=⟨2,v,[]⟩
def jn (sep:List B):List (List B)→List B
  | []=>[]
  | x::r=>x++(r.map (sep++·)).flatten
def innW (k:Int) (s:List B):List B:=if k=5∨k=6 then S wOpen::(s++[S wShut]) else s
def sepW (k:Int):List B:=if k=5 then [W wAnd] else [W wOr]
mutual
def ws:Pd.T→List B
  | .mk k f v l=>if k=1 then [W wTrue] else if k=2 then [W wFalse] else if k=3 then [W (Pd.word f),S wEq,Nm v]
    else if k=4 then W wNot::jn [] (wsL l) else jn (sepW k) (wsL l)
def wsL:List Pd.T→List (List B)
  | []=>[]
  | p::l=>innW p.k (ws p)::wsL l
end
theorem wsL_map (l:List Pd.T):wsL l=l.map fun p=>innW p.k (ws p):=by
  induction l with
  | nil=>rfl
  | cons p l ih=>rw [wsL,ih];rfl
theorem Has.shut {t:List UInt8} {L:List B} (h:Has t L):Has (40::(t++[41])) (S wOpen::(L++[S wShut])):=fun y hy=>by
  rw [List.cons_append,bs_sign _ (by decide),List.append_assoc,h _ (by rw [List.singleton_append];exact free_shut y),List.singleton_append,bs_sign _ (by decide)]
  cases bs y with
  | none=>rfl
  | some l=>simp [S,wOpen,wShut]
def HasA (t:List UInt8) (L:List B):Prop:=∀ y,bs (t++y)=(bs y).map (L++·)
theorem HasA.cat {t u:List UInt8} {L M:List B} (h:HasA t L) (h2:Has u M):Has (t++u) (L++M):=fun y hy=>by rw [List.append_assoc,h,h2 y hy,map_map2]
theorem hasA_nil:HasA [] []:=fun y=>by
  rw [List.nil_append]
  cases bs y<;>rfl
theorem hasA_sp {t:List UInt8} {L:List B} (h:HasA t L):HasA (32::t) L:=fun y=>by rw [List.cons_append,bs_sp,h y]
theorem hasA_word {w:List UInt8} (hw:∀ c∈w,isL c=true) (hne:w≠[]) {t:List UInt8} {L:List B} (h:HasA t L):HasA (w++(32::t)) (W w::L):=fun y=>by
  rw [List.append_assoc,List.cons_append,bs_word hw hne (free_sp _),bs_sp,h y]
  cases bs y<;>rfl
theorem has_tail {α:Type} {sep:List UInt8} {sW:List B} {t:α→List UInt8} {L:α→List B} (hs:HasA sep sW) (hf:∀ y,free (sep++y)):∀ l:List α,(∀ x∈l,Has (t x) (L x)) →
    Has (Lib.joinTail sep (l.map t)) ((l.map L).map (sW++·)).flatten∧∀ y,free y→free (Lib.joinTail sep (l.map t)++y)
  | [],_=>⟨has_nil,fun y hy=>hy⟩
  | x::l,h=>by
    obtain ⟨h1,h2⟩:=has_tail hs hf l fun x hx=>h x (by simp [hx])
    have e:Lib.joinTail sep ((x::l).map t)=(sep++t x)++Lib.joinTail sep (l.map t):=rfl
    rw [e]
    refine ⟨?_,fun y hy=>by rw [List.append_assoc,List.append_assoc];exact hf _⟩
    rw [List.map_cons,List.map_cons,List.flatten_cons]
    exact (hs.cat (h x (by simp))).cat h1 h2
theorem has_join {α:Type} {sep:List UInt8} {sW:List B} {t:α→List UInt8} {L:α→List B} (hs:HasA sep sW) (hf:∀ y,free (sep++y)) (l:List α) (h:∀ x∈l,Has (t x) (L x)):Has (Lib.join (l.map t) sep) (jn sW (l.map L)):=by
  cases l with
  | nil=>exact has_nil
  | cons x l =>
    obtain ⟨h1,h2⟩:=has_tail hs hf l fun x hx=>h x (by simp [hx])
    rw [List.map_cons,List.map_cons,Lib.join_cons]
    exact (h x (by simp)).cat h1 h2
theorem has_inn {k:Int} {t:List UInt8} {L:List B} (h:Has t L):Has (Pd.innerT k t) (innW k L):=by
  unfold Pd.innerT innW
  split
  · exact h.shut
  · exact h
theorem word_letters (f:Int):(∀ c∈Pd.word f,isL c=true)∧Pd.word f≠[]:=by
  unfold Pd.word
  repeat' split
  all_goals decide
theorem sep26 (k:Int):HasA (Pd.sepOf k) (sepW k):=by
  unfold Pd.sepOf sepW
  split
  · exact hasA_sp (hasA_word (w:=wAnd) (by decide) (by decide) hasA_nil)
  · exact hasA_sp (hasA_word (w:=wOr) (by decide) (by decide) hasA_nil)
theorem sep26_free (k:Int) (y:List UInt8):free (Pd.sepOf k++y):=by
  unfold Pd.sepOf
  split<;>exact free_sp _
mutual
theorem has_pred:∀ p:Pd.T,Pd.fits p=true→Has (Pd.text p) (ws p)
  | .mk k f v l,h=>by
    have hh:=h
    rw [Pd.fits,Bool.and_eq_true] at hh
    have hl:=has_preds l ((Pd.fitsL_iff l).1 hh.2)
    have h1:=hh.1
    unfold Pd.shape at h1
    rw [decide_eq_true_eq] at h1
    have ht:=Pd.top_lt f
    rw [Pd.text,ws]
    rcases h1 with ⟨rfl,hf,hv,_⟩ | ⟨rfl | rfl,_⟩ | ⟨rfl,_,_,hl1⟩ | ⟨hk,_,_,_⟩
    · rw [if_neg (by decide),if_neg (by decide),if_pos rfl,if_neg (by decide),if_neg (by decide),if_pos rfl]
      have hw:=word_letters f
      intro y hy
      rw [List.append_assoc]
      show bs (Pd.word f++(32::61::32::(Lib.itoa v++y)))=_
      rw [bs_word hw.1 hw.2 (free_sp _),bs_sp,bs_sign _ (by decide),bs_sp,bs_num hv.1 (by omega) hy]
      cases bs y<;>rfl
    · rw [if_pos rfl,if_pos rfl]
      exact has_word (w:=wTrue) (by decide) (by decide)
    · rw [if_neg (by decide),if_pos rfl,if_neg (by decide),if_pos rfl]
      exact has_word (w:=wFalse) (by decide) (by decide)
    · rw [if_neg (by decide),if_neg (by decide),if_neg (by decide),if_pos rfl,if_neg (by decide),if_neg (by decide),if_neg (by decide),if_pos rfl]
      obtain ⟨x,rfl⟩:=List.length_eq_one_iff.1 hl1
      have hx:=hl x (by simp)
      rw [Pd.parts_map,wsL_map]
      have e:Lib.join ([x].map fun p=>Pd.innerT p.k (Pd.text p)) []=Pd.innerT x.k (Pd.text x):=by
        rw [List.map_singleton,Lib.join_cons]
        exact List.append_nil _
      have e2:jn [] ([x].map fun p=>innW p.k (ws p))=innW x.k (ws x):=by
        rw [List.map_singleton]
        exact List.append_nil _
      rw [e,e2]
      exact (hasA_word (w:=wNot) (by decide) (by decide) hasA_nil).cat (has_inn hx)
    · rw [if_neg (by omega),if_neg (by omega),if_neg (by omega),if_neg (by omega),if_neg (by omega),if_neg (by omega),if_neg (by omega),if_neg (by omega)]
      rw [Pd.parts_map,wsL_map]
      exact has_join (sep26 k) (sep26_free k) l fun x hx=>has_inn (hl x hx)
theorem has_preds:∀ l:List Pd.T,(∀ p∈l,Pd.fits p=true)→∀ p∈l,Has (Pd.text p) (ws p)
  | [],_,p,hp=>by cases hp
  | q::l,h,p,hp=>by
    rcases List.mem_cons.1 hp with e | hp
    · rw [e];exact has_pred q (h q (by simp))
    · exact has_preds l (fun p hp=>h p (by simp [hp])) p hp
end
def innP (k:Int) (s:List B):List B:=if k=1∨k=2 then s else S wOpen::(s++[S wShut])
def sepP (k:Int):List B:=if k=3 then [S wSemi] else if k=4 then [S wBar] else [W wElse]
def filW (p:Pd.T):List B:=if p.k=1 then [W wId] else if p.k=2 then [W wDrop] else W wWhen::ws p
mutual
def wp:Po.T→List B
  | .mk k p f v l=>if k=1 then filW p else if k=2 then [W (Pd.word f),S wSet,Nm v] else (if k=5 then W wIf::(ws p++[W wThen]) else [])++jn (sepP k) (wpL l)
def wpL:List Po.T→List (List B)
  | []=>[]
  | p::l=>innP p.k (wp p)::wpL l
end
theorem wpL_map (l:List Po.T):wpL l=l.map fun p=>innP p.k (wp p):=by
  induction l with
  | nil=>rfl
  | cons p l ih=>rw [wpL,ih];rfl
theorem has_innP {k:Int} {t:List UInt8} {L:List B} (h:Has t L):Has (Po.innerT k t) (innP k L):=by
  unfold Po.innerT innP
  split
  · exact h
  · exact h.shut
theorem sep27 (k:Int):HasA (Po.sepOf k) (sepP k):=by
  unfold Po.sepOf sepP
  split
  · intro y
    show bs (59::32::y)=_
    rw [bs_sign _ (by decide),bs_sp]
    cases bs y<;>rfl
  split
  · intro y
    show bs (32::124::32::y)=_
    rw [bs_sp,bs_sign _ (by decide),bs_sp]
    cases bs y<;>rfl
  · exact hasA_sp (hasA_word (w:=wElse) (by decide) (by decide) hasA_nil)
theorem sep27_free (k:Int) (y:List UInt8):free (Po.sepOf k++y):=by
  unfold Po.sepOf
  split
  · exact free_semi _
  split<;>exact free_sp _
theorem has_filter {p:Pd.T} (h:Pd.fits p=true):Has (Po.filterT p) (filW p):=by
  unfold Po.filterT filW
  split
  · exact has_word (w:=wId) (by decide) (by decide)
  split
  · exact has_word (w:=wDrop) (by decide) (by decide)
  · exact (hasA_word (w:=wWhen) (by decide) (by decide) hasA_nil).cat (has_pred p h)
theorem right_fits {p:Pd.T} (h:Pd.right p=true):Pd.fits p=true:=by
  unfold Pd.right at h
  rw [Bool.and_eq_true] at h
  exact h.1
theorem hasA_head {p:Pd.T} (h:Pd.fits p=true):HasA (Po.headT p) (W wIf::(ws p++[W wThen])):=fun y=>by
  unfold Po.headT
  show bs (wIf++(32::((Pd.text p++(32::(wThen++[32])))++y)))=_
  rw [bs_word (by decide) (by decide) (free_sp _),bs_sp,List.append_assoc]
  show Option.map _ (bs (Pd.text p++(32::(wThen++[32]++y))))=_
  rw [has_pred p h _ (free_sp _),bs_sp,List.append_assoc]
  show Option.map _ (Option.map _ (bs (wThen++(32::y))))=_
  rw [bs_word (by decide) (by decide) (free_sp _),bs_sp]
  cases bs y with
  | none=>rfl
  | some l=>simp [W]
mutual
theorem has_pol:∀ x:Po.T,Po.fits x=true→Has (Po.text x) (wp x)
  | .mk k p f v l,h=>by
    obtain ⟨hsh,hfl⟩:=Po.fits_iff.1 h
    have hl:=has_pols l hfl
    have ht:=Pd.top_lt f
    rw [Po.text,wp]
    rcases hsh with ⟨rfl,hr,_,_⟩ | ⟨rfl,_,hf,hv,_⟩ | ⟨hk,_,_,hl1,hl2⟩ | ⟨rfl,hr,_,_⟩
    · rw [if_pos rfl,if_pos rfl]
      exact has_filter (right_fits hr)
    · rw [if_neg (by decide),if_pos rfl,if_neg (by decide),if_pos rfl]
      have hw:=word_letters f
      intro y hy
      rw [List.append_assoc]
      show bs (Pd.word f++(32::58::61::32::(Lib.itoa v++y)))=_
      rw [bs_word hw.1 hw.2 (free_sp _),bs_sp,bs_set,bs_sp,bs_num hv.1 (by omega) hy]
      cases bs y<;>rfl
    · rw [if_neg (by omega),if_neg (by omega),if_neg (by omega),if_neg (by omega),if_neg (by omega),if_neg (by omega),List.nil_append,List.nil_append,Po.parts_map,wpL_map]
      exact has_join (sep27 k) (sep27_free k) l fun x hx=>has_innP (hl x hx)
    · rw [if_neg (by decide),if_neg (by decide),if_pos rfl,if_neg (by decide),if_neg (by decide),if_pos rfl,Po.parts_map,wpL_map]
      exact (hasA_head (right_fits hr)).cat (has_join (sep27 5) (sep27_free 5) l fun x hx=>has_innP (hl x hx))
theorem has_pols:∀ l:List Po.T,(∀ p∈l,Po.fits p=true)→∀ p∈l,Has (Po.text p) (wp p)
  | [],_,p,hp=>by cases hp
  | q::l,h,p,hp=>by
    rcases List.mem_cons.1 hp with e | hp
    · rw [e];exact has_pol q (h q (by simp))
    · exact has_pols l (fun p hp=>h p (by simp [hp])) p hp
end
theorem words_pol {x:Po.T} (h:Po.fits x=true):bs (Po.text x)=some (wp x):=by
  have:=has_pol x h [] free_nil
  rw [List.append_nil,bs_nil] at this
  simpa using this
end Ps
end Go.Proofs.YtaojbkphcnailaaDoor
