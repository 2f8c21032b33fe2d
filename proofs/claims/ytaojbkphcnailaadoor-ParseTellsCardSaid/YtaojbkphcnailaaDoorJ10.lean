import Derived.Test.YtaojbkphcnailaaDoorJ1
import Derived.Lib.Join
import Derived.Lib.ItoaLen
import Derived.Test.YtaojbkphcnailaaDoorJ9
namespace Go.Proofs.YtaojbkphcnailaaDoor
open Go.Sx
set_option maxRecDepth 20000
set_option linter.unusedVariables false
namespace Pd
def word (f:Int):List UInt8 :=
  if f=0 then [115,114,99] else if f=1 then [100,115,116] else if f=2 then [107,105,110,100] else if f=3 then [116,97,103] else if f=4 then [112,111,114,116] else [115,119,105,116,99,104]
def sepOf (k:Int):List UInt8:=if k=5 then [32,97,110,100,32] else [32,111,114,32]
def innerT (k:Int) (s:List UInt8):List UInt8:=if k=5∨k=6 then 40::(s++[41]) else s
mutual
def text:T→List UInt8
  | .mk k f v l=>if k=1 then [116,114,117,101] else if k=2 then [102,97,108,115,101] else if k=3 then word f++([32,61,32]++Lib.itoa v)
    else if k=4 then [110,111,116,32]++Lib.join (parts l) [] else Lib.join (parts l) (sepOf k)
def parts:List T→List (List UInt8)
  | []=>[]
  | p::l=>innerT p.k (text p)::parts l
end
theorem parts_map (l:List T):parts l=l.map fun p=>innerT p.k (text p):=by
  induction l with
  | nil=>rfl
  | cons p l ih=>rw [parts,ih];rfl
theorem parts_take {l:List T} {i:Nat} (h:i<l.length):parts (l.take (i+1))=parts (l.take i)++[innerT l[i].k (text l[i])]:=by
  rw [parts_map,parts_map,List.take_add_one,List.getElem?_eq_getElem h,List.map_append]
  rfl
theorem parts_len (l:List T):(parts l).length=l.length:=by rw [parts_map,List.length_map]
theorem word_len (f:Int):(word f).length≤6:=by
  unfold word
  repeat' split
  all_goals decide
theorem innerT_len (k:Int) (s:List UInt8):(innerT k s).length≤s.length+2:=by
  unfold innerT
  split
  · simp
  · omega
theorem joinTail_len (sep:List UInt8):∀ r:List (List UInt8),(Lib.joinTail sep r).length=(r.map fun x=>sep.length+x.length).sum
  | []=>rfl
  | x::r=>by
    have:=joinTail_len sep r
    unfold Lib.joinTail at *
    simp only [List.map_cons,List.flatten_cons,List.length_append,List.sum_cons,this]
theorem join_le (sep:List UInt8) (r:List (List UInt8)):(Lib.join r sep).length≤(r.map fun x=>sep.length+x.length).sum:=by
  cases r with
  | nil=>simp [Lib.join,List.intercalate]
  | cons x r =>
    rw [Lib.join_cons,List.length_append,joinTail_len,List.map_cons,List.sum_cons]
    omega
theorem top_lt (f:Int):top f≤255:=by unfold top;split<;>first | omega | (split<;>first | omega | (split<;>omega))
mutual
theorem text_len:∀ p:T,fits p=true→(text p).length+7≤40*size p
  | .mk k f v l,h=>by
    rw [fits,Bool.and_eq_true] at h
    have hp:=parts_sum l h.2
    have hj0:=join_le [] (parts l)
    have hj:=join_le (sepOf k) (parts l)
    have hs:(sepOf k).length≤5:=by unfold sepOf;split<;>decide
    have h0:((parts l).map fun x=>([]:List UInt8).length+x.length).sum≤((parts l).map fun x=>5+x.length).sum:=sum_le _ (by simp)
    have h5:((parts l).map fun x=>(sepOf k).length+x.length).sum≤((parts l).map fun x=>5+x.length).sum:=sum_le _ hs
    have hw:=word_len f
    rw [size,text]
    split
    · simp only [List.length_cons,List.length_nil];omega
    split
    · simp only [List.length_cons,List.length_nil];omega
    split
    · rename_i hk
      have h1:=h.1
      unfold shape at h1
      rw [decide_eq_true_eq] at h1
      have ht:=top_lt f
      have:=Lib.itoa_length_le v (by omega) (by omega)
      simp only [List.length_append,List.length_cons,List.length_nil]
      omega
    split
    · simp only [List.length_append,List.length_cons,List.length_nil];omega
    · omega
theorem parts_sum:∀ l:List T,fitsL l=true→((parts l).map fun x=>5+x.length).sum≤40*sizeL l
  | [],_=>by simp [parts]
  | p::l,h=>by
    rw [fitsL,Bool.and_eq_true] at h
    have h1:=text_len p h.1
    have h2:=parts_sum l h.2
    have h3:=innerT_len p.k (text p)
    rw [parts,sizeL,List.map_cons,List.sum_cons]
    omega
theorem sum_le {a b:Nat}:∀ r:List (List UInt8),a≤b→(r.map fun x=>a+x.length).sum≤(r.map fun x=>b+x.length).sum
  | [],_=>by simp
  | x::r,h=>by have:=sum_le r h;rw [List.map_cons,List.map_cons,List.sum_cons,List.sum_cons];omega
end
end Pd
end Go.Proofs.YtaojbkphcnailaaDoor
namespace Go.Proofs.YtaojbkphcnailaaDoor
open Go.Sx
set_option maxRecDepth 20000
set_option maxHeartbeats 4000000
set_option linter.unusedVariables false
namespace Pd
theorem fits_mk {k f v:Int} {l:List T} (h:fits (.mk k f v l)=true):(k=3∧(0≤f∧f≤5)∧(0≤v∧v≤top f)∧l.length=0∨(k=1∨k=2)∧f=0∧v=0∧l.length=0∨k=4∧f=0∧v=0∧l.length=1∨(k=5∨k=6)∧f=0∧v=0∧2≤l.length∧l.length≤8)∧∀ x∈l,fits x=true:=by
  rw [fits,Bool.and_eq_true,fitsL_iff] at h
  have h1:=h.1
  unfold shape at h1
  rw [decide_eq_true_eq] at h1
  exact ⟨h1,h.2⟩
theorem size_mk (k f v:Int) (l:List T):size (.mk k f v l)=1+sizeL l:=by rw [size]
end Pd
end Go.Proofs.YtaojbkphcnailaaDoor
