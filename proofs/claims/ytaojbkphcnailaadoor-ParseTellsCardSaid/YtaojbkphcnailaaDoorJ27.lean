import Derived.Test.YtaojbkphcnailaaDoorJ13
import Derived.Test.YtaojbkphcnailaaDoorJ26
import Derived.Test.YtaojbkphcnailaaDoorJ10
namespace Go.Proofs.YtaojbkphcnailaaDoor
open Go.Sx
set_option maxRecDepth 20000
set_option linter.unusedVariables false
namespace Po
theorem fits_iff {k:Int} {p:Pd.T} {f v:Int} {l:List T}:fits (.mk k p f v l)=true↔(k=1∧Pd.right p=true∧(f=0∧v=0)∧l.length=0∨k=2∧p=noneP∧(0≤f∧f≤4)∧(0≤v∧v≤Pd.top f)∧l.length=0∨(k=3∨k=4)∧p=noneP∧(f=0∧v=0)∧2≤l.length∧l.length≤8∨k=5∧Pd.right p=true∧(f=0∧v=0)∧l.length=2)∧∀ x∈l,fits x=true:=by
  have hl:fitsL l=true↔∀ x∈l,fits x=true:=by
    induction l with
    | nil=>simp [fitsL]
    | cons x l ih=>simp only [fitsL,Bool.and_eq_true,ih,List.mem_cons,forall_eq_or_imp]
  have hn:none p=true↔p=noneP:=Pd.same_eq _ _
  rw [fits,Bool.and_eq_true,hl]
  unfold shape
  rw [decide_eq_true_eq,hn]
end Po
end Go.Proofs.YtaojbkphcnailaaDoor
namespace Go.Proofs.YtaojbkphcnailaaDoor
open Go.Sx
set_option maxRecDepth 20000
set_option linter.unusedVariables false
namespace Po
def sepOf (k:Int):List UInt8:=if k=3 then [59,32] else if k=4 then [32,124,32] else [32,101,108,115,101,32]
def innerT (k:Int) (s:List UInt8):List UInt8:=if k=1∨k=2 then s else 40::(s++[41])
def filterT (p:Pd.T):List UInt8:=if p.k=1 then [105,100] else if p.k=2 then [100,114,111,112] else [119,104,101,110,32]++Pd.text p
def headT (p:Pd.T):List UInt8:=[105,102,32]++(Pd.text p++[32,116,104,101,110,32])
mutual
def text:T→List UInt8
  | .mk k p f v l=>if k=1 then filterT p else if k=2 then Pd.word f++([32,58,61,32]++Lib.itoa v) else (if k=5 then headT p else [])++Lib.join (parts l) (sepOf k)
def parts:List T→List (List UInt8)
  | []=>[]
  | p::l=>innerT p.k (text p)::parts l
end
theorem parts_map (l:List T):parts l=l.map fun p=>innerT p.k (text p):=by
  induction l with
  | nil=>rfl
  | cons p l ih=>rw [parts,ih];rfl
theorem parts_take {l:List T} {i:Nat} (h:i<l.length):parts (l.take (i+1))=parts (l.take i)++[innerT l[i].k (text l[i])]:=by
  rw [parts_map,parts_map,List.take_add_one,List.getElem?_eq_getElem h,List.map_append]
  rfl
theorem parts_len (l:List T):(parts l).length=l.length:=by rw [parts_map,List.length_map]
theorem innerT_len (k:Int) (s:List UInt8):(innerT k s).length≤s.length+2:=by
  unfold innerT
  split
  · omega
  · simp
theorem filterT_len (p:Pd.T) (h:Pd.fits p=true):(filterT p).length+2≤40*Pd.size p:=by
  have:=Pd.text_len p h
  have:=Pd.size_pos p
  unfold filterT
  split
  · simp;omega
  · split
    · simp;omega
    · simp only [List.length_append,List.length_cons,List.length_nil];omega
theorem headT_len (p:Pd.T) (h:Pd.fits p=true):(headT p).length≤40*Pd.size p+2:=by
  have:=Pd.text_len p h
  unfold headT
  simp only [List.length_append,List.length_cons,List.length_nil];omega
theorem sep_len (k:Int):(sepOf k).length≤6:=by
  unfold sepOf
  repeat' split
  all_goals decide
mutual
theorem text_len:∀ x:T,fits x=true→(text x).length+8≤40*tot x
  | .mk k p f v l,h=>by
    obtain ⟨hsh,hfl⟩:=fits_iff.1 h
    have hp:=parts_sum l hfl
    have hj:=Pd.join_le (sepOf k) (parts l)
    have h6:((parts l).map fun x=>(sepOf k).length+x.length).sum≤((parts l).map fun x=>6+x.length).sum:=Pd.sum_le _ (sep_len k)
    have hw:=Pd.word_len f
    have hz:=Pd.size_pos p
    rw [tot,text]
    rcases hsh with ⟨rfl,hr,_,hl⟩ | ⟨rfl,_,hf,hv,hl⟩ | ⟨hk,_,_,hl1,hl2⟩ | ⟨rfl,hr,_,hl⟩
    · have:=filterT_len p (right_fits hr)
      rw [if_pos rfl]
      omega
    · have ht:=Pd.top_lt f
      have:=Lib.itoa_length_le v (by omega) (by omega)
      rw [if_neg (by decide),if_pos rfl]
      simp only [List.length_append,List.length_cons,List.length_nil]
      omega
    · rw [if_neg (by omega),if_neg (by omega),if_neg (by omega),List.nil_append]
      omega
    · have:=headT_len p (right_fits hr)
      rw [if_neg (by decide),if_neg (by decide),if_pos rfl,List.length_append]
      omega
theorem parts_sum:∀ l:List T,(∀ y∈l,fits y=true)→((parts l).map fun x=>6+x.length).sum≤40*totL l
  | [],_=>by simp [parts]
  | p::l,h=>by
    have h1:=text_len p (h p (by simp))
    have h2:=parts_sum l fun y hy=>h y (by simp [hy])
    have h3:=innerT_len p.k (text p)
    rw [parts,totL,List.map_cons,List.sum_cons]
    omega
end
end Po
end Go.Proofs.YtaojbkphcnailaaDoor
