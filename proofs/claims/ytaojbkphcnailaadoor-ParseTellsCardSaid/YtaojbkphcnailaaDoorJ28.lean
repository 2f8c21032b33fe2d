import Derived.Test.YtaojbkphcnailaaDoorJ2
import Derived.Test.YtaojbkphcnailaaDoorJ27
namespace Go.Proofs.YtaojbkphcnailaaDoor
open Go.Sx
set_option maxRecDepth 20000
set_option linter.unusedVariables false
namespace Ps
open Lx (B toks nextB skip isL isD isS isSp)
def bs (t:List UInt8):Option (List B):=(toks t).map (List.map Prod.fst)
theorem bs_skip {t y:List UInt8} (h:skip t=skip y):bs t=bs y:=by unfold bs;rw [Lx.toks_skip h]
theorem skip_sp (u:List UInt8):skip (32::u)=skip u:=by
  have e:(32::u).dropWhile isSp=u.dropWhile isSp:=List.dropWhile_cons_of_pos (by decide)
  cases hu:u.dropWhile isSp with
  | nil=>rw [Lx.skip_nil (e.trans hu),Lx.skip_nil hu]
  | cons c r=>rw [Lx.skip_cons (e.trans hu),Lx.skip_cons hu]
theorem bs_sp (u:List UInt8):bs (32::u)=bs u:=bs_skip (skip_sp u)
theorem bs_nil:bs []=some []:=by unfold bs;rw [Lx.toks_nil (Lx.skip_nil rfl)];rfl
theorem bs_tok {c:UInt8} {r:List UInt8} {b:B} {n:Nat} (h1:isSp c=false) (h2:c≠35) (h:nextB (c::r)=some (b,n)):bs (c::r)=(bs ((c::r).drop n)).map (b::·):=by
  have hs:=Lx.skip_id (r:=r) h1 h2
  unfold bs
  rw [Lx.toks_cons (by rw [hs];exact List.cons_ne_nil _ _) (by rw [hs];exact h),hs]
  cases toks ((c::r).drop n)<;>rfl
def free (y:List UInt8):Prop:=∀ c r,y=c::r→isL c=false∧isD c=false
theorem free_nil:free []:=fun c r h=>by cases h
theorem free_sp (y:List UInt8):free (32::y):=fun c r h=>by injection h with h _;rw [← h];decide
theorem free_semi (y:List UInt8):free (59::y):=fun c r h=>by injection h with h _;rw [← h];decide
theorem letter_sp {c:UInt8} (h:isL c=true):isSp c=false∧c≠35:=by
  unfold isL at h
  simp only [Bool.and_eq_true,decide_eq_true_eq] at h
  constructor
  · unfold isSp
    cases hc:(c == 32||c == 9||c == 10) with
    | false=>rfl
    | true =>
      simp only [Bool.or_eq_true,beq_iff_eq] at hc
      rcases hc with (rfl | rfl) | rfl<;>revert h<;>decide
  · rintro rfl
    revert h;decide
theorem digit_sp {c:UInt8} (h:isD c=true):isSp c=false∧c≠35:=by
  unfold isD at h
  simp only [Bool.and_eq_true,decide_eq_true_eq] at h
  constructor
  · unfold isSp
    cases hc:(c == 32||c == 9||c == 10) with
    | false=>rfl
    | true =>
      simp only [Bool.or_eq_true,beq_iff_eq] at hc
      rcases hc with (rfl | rfl) | rfl<;>revert h<;>decide
  · rintro rfl
    revert h;decide
theorem digit_letter {c:UInt8} (h:isD c=true):isL c=false:=by
  unfold isD at h
  unfold isL
  simp only [Bool.and_eq_true,decide_eq_true_eq] at h
  rw [decide_eq_false (by omega),Bool.false_and]
theorem bs_word {w y:List UInt8} (hw:∀ c∈w,isL c=true) (hne:w≠[]) (hy:free y):bs (w++y)=(bs y).map (⟨1,0,w⟩::·):=by
  obtain ⟨c,r,rfl⟩:=List.exists_cons_of_ne_nil hne
  have hc:=hw c (by simp)
  obtain ⟨h1,h2⟩:=letter_sp hc
  have ht:=Lx.tw_ext (p:=isL) (a:=c::r) (r:=y) hw fun c t e=>(hy c t e).1
  have hn:nextB (c::(r++y))=some (⟨1,0,c::r⟩,(c::r).length):=by
    rw [Lx.nextB_eq,if_pos hc]
    have:=ht.1
    rw [List.cons_append] at this
    rw [this]
  rw [List.cons_append,bs_tok h1 h2 hn,← List.cons_append,List.drop_left]
theorem bs_num {v:Int} {y:List UInt8} (h0:0≤v) (h9:v≤255) (hy:free y):bs (Lib.itoa v++y)=(bs y).map (⟨2,v,[]⟩::·):=by
  obtain ⟨n,rfl⟩:=Int.eq_ofNat_of_zero_le h0
  have hall:∀ n:Nat,n<256→(∀ c∈Lib.itoa (n:Int),isD c=true)∧Lib.itoa (n:Int)≠[]∧¬ (3<(Lib.itoa (n:Int)).length∨(1<(Lib.itoa (n:Int)).length∧(Lib.itoa (n:Int)).head?=some 48))∧Lx.num (Lib.itoa (n:Int))=n:=by decide +kernel
  obtain ⟨hd,hne,hok,hnum⟩:=hall n (by omega)
  have hw:∀ w:List UInt8,(∀ c∈w,isD c=true)→w≠[]→¬ (3<w.length∨(1<w.length∧w.head?=some 48))→Lx.num w=n→bs (w++y)=(bs y).map (⟨2,(n:Int),[]⟩::·):=fun w hd hne hok hnum=>by
    obtain ⟨c,r,rfl⟩:=List.exists_cons_of_ne_nil hne
    have hc:=hd c (by simp)
    obtain ⟨h1,h2⟩:=digit_sp hc
    have ht:=(Lx.tw_ext (p:=isD) (a:=c::r) (r:=y) hd fun c t e=>(hy c t e).2).1
    rw [List.cons_append] at ht
    have hl:=digit_letter hc
    have hn:nextB (c::(r++y))=some (⟨2,(n:Int),[]⟩,(c::r).length):=by
      rw [Lx.nextB_eq,if_neg (by rw [hl];decide),if_pos hc,ht,if_neg (fun h=>hok (by simpa using h)),hnum]
    rw [List.cons_append,bs_tok h1 h2 hn,← List.cons_append,List.drop_left]
  exact hw _ hd hne hok hnum
theorem bs_sign {c:UInt8} (y:List UInt8) (h:isS c=true):bs (c::y)=(bs y).map (⟨3,0,[c]⟩::·):=by
  have hc:c=40∨c=41∨c=59∨c=124∨c=61:=by
    unfold isS at h
    simpa [or_assoc] using h
  have hn:nextB (c::y)=some (⟨3,0,[c]⟩,1):=by
    rw [Lx.nextB_eq,if_neg (by rcases hc with rfl | rfl | rfl | rfl | rfl<;>decide),if_neg (by rcases hc with rfl | rfl | rfl | rfl | rfl<;>decide),if_neg (fun e=>by rw [e.1] at h;revert h;decide),if_pos h]
  rw [bs_tok (by rcases hc with rfl | rfl | rfl | rfl | rfl<;>decide) (by rcases hc with rfl | rfl | rfl | rfl | rfl<;>decide) hn]
  rfl
theorem bs_set (y:List UInt8):bs (58::61::y)=(bs y).map (⟨3,0,[58,61]⟩::·):=by
  have hn:nextB (58::61::y)=some (⟨3,0,[58,61]⟩,2):=by
    rw [Lx.nextB_eq,if_neg (by decide),if_neg (by decide),if_pos ⟨rfl,rfl⟩]
  rw [bs_tok (by decide) (by decide) hn]
  rfl
end Ps
end Go.Proofs.YtaojbkphcnailaaDoor
namespace Go.Proofs.YtaojbkphcnailaaDoor
open Go.Sx
set_option maxRecDepth 20000
set_option linter.unusedVariables false
namespace Ps
open Lx (B toks nextB skip isL isD isS isSp)
def W (s:List UInt8):B:=⟨1,0,s⟩
def S (s:List UInt8):B:=⟨3,0,s⟩
def Nm (v:Int):B:=⟨2,v,[]⟩
end Ps
end Go.Proofs.YtaojbkphcnailaaDoor
