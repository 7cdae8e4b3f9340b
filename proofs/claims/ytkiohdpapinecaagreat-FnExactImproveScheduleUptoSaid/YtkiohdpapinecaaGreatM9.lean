/- Stable insertion: what StartOrder computes, as lists and as the sort of a row. No statement of a claim. -/
import Derived.Sort.WalkA
import Derived.Test.YtkiohdpapinecaaGreatPlain
set_option linter.all false
namespace Go.Proofs.YtkiohdpapinecaaGreat.Abs
open Go.Proofs Go.Sort
def insAt (f:Nat→Int) (out:List Nat) (a:Nat):Nat→Nat
 | 0=>0
 | k+1=>if f (out.getD k 0) > f a then insAt f out a k else k+1
def insKey (f:Nat→Int) (out:List Nat) (a:Nat):List Nat:=out.take (insAt f out a out.length)++a::out.drop (insAt f out a out.length)
def keyAt (l:List Int) (i:Nat):Int:=l.getD (min i (l.length - 1)) 0
def orderN (l:List Int) (k:Nat):List Nat:=(List.range k).foldl (insKey (keyAt l)) []
def startOrder (l:List Int):List Int:=(orderN l l.length).map Int.ofNat
theorem insAt_le (f:Nat→Int) (out:List Nat) (a:Nat):∀k,insAt f out a k≤k
 | 0=>Nat.le_refl _
 | k+1=>by
  rw [insAt]
  split
  ·exact Nat.le_succ_of_le (insAt_le f out a k)
  ·exact Nat.le_refl _
theorem insAt_congr {f:Nat→Int} {out o:List Nat} {a:Nat}:∀{k:Nat},(∀i,i < k→out.getD i 0=o.getD i 0)→insAt f out a k=insAt f o a k
 | 0,_=>rfl
 | k+1,h=>by rw [insAt,insAt,h k (by omega),insAt_congr fun i hi=>h i (by omega)]
theorem insKey_len (f:Nat→Int) (out:List Nat) (a:Nat):(insKey f out a).length=out.length+1:=by
 have:=insAt_le f out a out.length
 rw [insKey,List.length_append,List.length_cons,List.length_take,List.length_drop];omega
theorem insKey_mem {f:Nat→Int} {out:List Nat} {a x:Nat} (h:x∈insKey f out a):x∈out∨x=a:=by
 rcases List.mem_append.1 h with h | h
 ·exact .inl (List.mem_of_mem_take h)
 ·rcases List.mem_cons.1 h with h | h
  ·exact .inr h
  ·exact .inl (List.mem_of_mem_drop h)
theorem orderN_succ (l:List Int) (k:Nat):orderN l (k+1)=insKey (keyAt l) (orderN l k) k:=by
 rw [orderN,List.range_succ,List.foldl_append];rfl
theorem orderN_len (l:List Int):∀k,(orderN l k).length=k
 | 0=>rfl
 | k+1=>by rw [orderN_succ,insKey_len,orderN_len l k]
theorem orderN_lt (l:List Int):∀k,∀x∈orderN l k,x < k
 | 0,x,h=>by simp [orderN] at h
 | k+1,x,h=>by
  rw [orderN_succ] at h
  rcases insKey_mem h with h | h
  ·have:=orderN_lt l k x h;omega
  ·omega
def cfKey (l:List Int) (x y:Nat):Int:=cmpI (keyAt l x) (keyAt l y)
def ltKey (l:List Int) (x y:Nat):Bool:=decide (cfKey l x y < 0)
theorem ltKey_eq (l:List Int) (x y:Nat):ltKey l x y=decide (keyAt l x < keyAt l y):=by
 unfold ltKey cfKey cmpI
 split
 ·rename_i h;simp [h]
 ·rename_i h;split <;> simp [h]
theorem swp_mid (o rest:List Nat) (x a:Nat):swp (o++[x]++a::rest).toArray (o.length+1) o.length=(o++a::(x::rest)).toArray:=by
 have e1:(o++[x]++a::rest).toArray[o.length+1]! =a:=by
  rw [getElem!_pos _ _ (by simp)];simp
 have e0:(o++[x]++a::rest).toArray[o.length]! =x:=by
  rw [getElem!_pos _ _ (by simp)];simp
 rw [swp,e1,e0]
 simp [List.set_append]
theorem insInner_list (l:List Int) (a:Nat):∀(j:Nat) (out rest:List Nat),out.length=j→insInner (ltKey l) 0 j (out++a::rest).toArray=(out.take (insAt (keyAt l) out a j)++a::(out.drop (insAt (keyAt l) out a j)++rest)).toArray
 | 0,out,rest,h=>by
  obtain rfl:=List.eq_nil_of_length_eq_zero h
  rw [insInner_stop _ _ _ _ (.inl (Nat.le_refl _))];simp [insAt]
 | j+1,out,rest,h=>by
  obtain⟨o,x,rfl⟩:∃o x,out=o++[x]:=⟨out.dropLast,out.getLast (by intro e;subst e;simp at h),(List.dropLast_concat_getLast _).symm⟩
  obtain rfl:j=o.length:=by simp at h;omega
  have e1:(o++[x]++a::rest).toArray[o.length+1]! =a:=by
   rw [getElem!_pos _ _ (by simp)];simp
  have e0:(o++[x]++a::rest).toArray[o.length]! =x:=by
   rw [getElem!_pos _ _ (by simp)];simp
  have ei:(o++[x]).getD o.length 0=x:=by simp [List.getD_eq_getElem?_getD]
  have ec:insAt (keyAt l) (o++[x]) a o.length=insAt (keyAt l) o a o.length:=insAt_congr fun i hi=>by
   simp [List.getD_eq_getElem?_getD,List.getElem?_append_left hi]
  have hle:=insAt_le (keyAt l) o a o.length
  by_cases hl:keyAt l x > keyAt l a
  ·rw [insInner_go _ _ _ _ (by omega) (by rw [Nat.add_sub_cancel,e1,e0,ltKey_eq];exact decide_eq_true hl),Nat.add_sub_cancel,swp_mid,insInner_list l a o.length o (x::rest) rfl]
   rw [insAt,ei,if_pos hl,ec,List.take_append_of_le_length hle,List.drop_append_of_le_length hle]
   simp
  ·rw [insInner_stop _ _ _ _ (.inr (by rw [Nat.add_sub_cancel,e1,e0,ltKey_eq];exact decide_eq_false hl))]
   rw [insAt,ei,if_neg hl,List.take_of_length_le (by simp),List.drop_of_length_le (by simp)]
   simp
theorem insOuter_list (l:List Int) (n:Nat):∀(m i:Nat),i+m=n→insOuter (ltKey l) 0 n i (orderN l i++List.range' i m).toArray=(orderN l n).toArray
 | 0,i,h=>by
  obtain rfl:i=n:=by omega
  rw [insOuter_stop _ _ _ _ _ (by omega)];simp
 | m+1,i,h=>by
  rw [insOuter_go _ _ _ _ _ (by omega),List.range'_succ,insInner_list l i i (orderN l i) (List.range' (i+1) m) (orderN_len l i)]
  have:=insOuter_list l n m (i+1) (by omega)
  rw [orderN_succ,insKey,orderN_len] at this
  rw [← this]
  simp
theorem sort_order (l:List Int) (n:Nat) (hn:0 < n):insertionSort (ltKey l) (List.range n).toArray 0 n=(orderN l n).toArray:=by
 have:=insOuter_list l n (n - 1) 1 (by omega)
 rw [insertionSort,Nat.zero_add, ← this]
 congr 2
 rw [List.range_eq_range',show n=(n - 1)+1 by omega,List.range'_succ]
 simp [orderN,insKey,insAt]
end Go.Proofs.YtkiohdpapinecaaGreat.Abs
