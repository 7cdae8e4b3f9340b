/- Stable insertion: what StartOrder computes, as lists and as the sort of a row. -/
import Derived.Sort.WalkA
import Derived.Test.YtpfgedlimdeffaaGreatPlain
set_option linter.all false
namespace Go.Proofs.YtpfgedlimdeffaaGreat.Abs
open Go.Proofs Go.Sort
def jP (f:Nat→Int) (out:List Nat) (a:Nat):Nat→Nat
 |0=>0
 |k+1=>if f (out.getD k 0) > f a then jP f out a k else k+1
def oD (f:Nat→Int) (out:List Nat) (a:Nat):List Nat:=out.take (jP f out a out.length)++a::out.drop (jP f out a out.length)
def jc (l:List Int) (i:Nat):Int:=l.getD (min i (l.length - 1)) 0
def dL (l:List Int) (k:Nat):List Nat:=(List.range k).foldl (oD (jc l)) []
def eG (l:List Int):List Int:=(dL l l.length).map Int.ofNat
theorem FW (f:Nat→Int) (out:List Nat) (a:Nat):∀k,jP f out a k≤k
 |0=>Nat.le_refl _
 |k+1=>by
  rw [jP]
  split
  ·exact Nat.le_succ_of_le (FW f out a k)
  ·exact Nat.le_refl _
theorem CY {f:Nat→Int} {out o:List Nat} {a:Nat}:∀{k:Nat},(∀i,i < k→out.getD i 0=o.getD i 0)→jP f out a k=jP f o a k
 |0,_=>rfl
 |k+1,h=>by rw [jP,jP,h k (by omega),CY fun i hi=>h i (by omega)]
theorem Pw (f:Nat→Int) (out:List Nat) (a:Nat):(oD f out a).length=out.length+1:=by
 have:=FW f out a out.length
 rw [oD,List.length_append,List.length_cons,List.length_take,List.length_drop];omega
theorem FX {f:Nat→Int} {out:List Nat} {a x:Nat} (h:x∈oD f out a):x∈out∨x=a:=by
 rcases List.mem_append.1 h with h|h
 ·exact .inl (List.mem_of_mem_take h)
 ·rcases List.mem_cons.1 h with h|h
  ·exact .inr h
  ·exact .inl (List.mem_of_mem_drop h)
theorem jQ (l:List Int) (k:Nat):dL l (k+1)=oD (jc l) (dL l k) k:=by
 rw [dL,List.range_succ,List.foldl_append];rfl
theorem jR (l:List Int):∀k,(dL l k).length=k
 |0=>rfl
 |k+1=>by rw [jQ,Pw,jR l k]
theorem pJ (l:List Int):∀k,∀x∈dL l k,x < k
 |0,x,h=>by simp [dL] at h
 |k+1,x,h=>by
  rw [jQ] at h
  rcases FX h with h|h
  ·have:=pJ l k x h;omega
  ·omega
def uS (l:List Int) (x y:Nat):Int:=ML (jc l x) (jc l y)
def IZ (l:List Int) (x y:Nat):Bool:=decide (uS l x y < 0)
theorem NH (l:List Int) (x y:Nat):IZ l x y=decide (jc l x < jc l y):=by
 unfold IZ uS ML
 split
 ·rename_i h;simp [h]
 ·rename_i h;split<;>simp [h]
theorem VB (o rest:List Nat) (x a:Nat):swp (o++[x]++a::rest).toArray (o.length+1) o.length=(o++a::(x::rest)).toArray:=by
 have e1:(o++[x]++a::rest).toArray[o.length+1]! =a:=by
  rw [getElem!_pos _ _ (by simp)];simp
 have e0:(o++[x]++a::rest).toArray[o.length]! =x:=by
  rw [getElem!_pos _ _ (by simp)];simp
 rw [swp,e1,e0]
 simp [List.set_append]
theorem xH (l:List Int) (a:Nat):∀(j:Nat) (out rest:List Nat),out.length=j→insInner (IZ l) 0 j (out++a::rest).toArray=(out.take (jP (jc l) out a j)++a::(out.drop (jP (jc l) out a j)++rest)).toArray
 |0,out,rest,h=>by
  obtain rfl:=List.eq_nil_of_length_eq_zero h
  rw [insInner_stop _ _ _ _ (.inl (Nat.le_refl _))];simp [jP]
 |j+1,out,rest,h=>by
  obtain⟨o,x,rfl⟩:∃o x,out=o++[x]:=⟨out.dropLast,out.getLast (by intro e;subst e;simp at h),(List.dropLast_concat_getLast _).symm⟩
  obtain rfl:j=o.length:=by simp at h;omega
  have e1:(o++[x]++a::rest).toArray[o.length+1]! =a:=by
   rw [getElem!_pos _ _ (by simp)];simp
  have e0:(o++[x]++a::rest).toArray[o.length]! =x:=by
   rw [getElem!_pos _ _ (by simp)];simp
  have ei:(o++[x]).getD o.length 0=x:=by simp [List.getD_eq_getElem?_getD]
  have ec:jP (jc l) (o++[x]) a o.length=jP (jc l) o a o.length:=CY fun i hi=>by
   simp [List.getD_eq_getElem?_getD,List.getElem?_append_left hi]
  have hle:=FW (jc l) o a o.length
  by_cases hl:jc l x > jc l a
  ·rw [insInner_go _ _ _ _ (by omega) (by rw [Nat.add_sub_cancel,e1,e0,NH];exact decide_eq_true hl),Nat.add_sub_cancel,VB,xH l a o.length o (x::rest) rfl]
   rw [jP,ei,if_pos hl,ec,List.take_append_of_le_length hle,List.drop_append_of_le_length hle]
   simp
  ·rw [insInner_stop _ _ _ _ (.inr (by rw [Nat.add_sub_cancel,e1,e0,NH];exact decide_eq_false hl))]
   rw [jP,ei,if_neg hl,List.take_of_length_le (by simp),List.drop_of_length_le (by simp)]
   simp
theorem xI (l:List Int) (n:Nat):∀(m i:Nat),i+m=n→insOuter (IZ l) 0 n i (dL l i++List.range' i m).toArray=(dL l n).toArray
 |0,i,h=>by
  obtain rfl:i=n:=by omega
  rw [insOuter_stop _ _ _ _ _ (by omega)];simp
 |m+1,i,h=>by
  rw [insOuter_go _ _ _ _ _ (by omega),List.range'_succ,xH l i i (dL l i) (List.range' (i+1) m) (jR l i)]
  have:=xI l n m (i+1) (by omega)
  rw [jQ,oD,jR] at this
  rw [← this]
  simp
theorem Px (l:List Int) (n:Nat) (hn:0 < n):insertionSort (IZ l) (List.range n).toArray 0 n=(dL l n).toArray:=by
 have:=xI l n (n - 1) 1 (by omega)
 rw [insertionSort,Nat.zero_add, ← this]
 congr 2
 rw [List.range_eq_range',show n=(n - 1)+1 by omega,List.range'_succ]
 simp [dL,oD,jP]
end Go.Proofs.YtpfgedlimdeffaaGreat.Abs
