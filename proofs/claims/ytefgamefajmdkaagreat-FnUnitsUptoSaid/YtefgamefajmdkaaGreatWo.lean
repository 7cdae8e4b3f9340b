/- slices.DeleteFunc over literals; the clause without one of its literals. -/
import Derived.WalkKit
import Derived.Deep.LoopGhost
import Derived.Lib.Hide
import Derived.Sort.WalkB12
import Derived.Lib.SliceRun
import Derived.Test.YtefgamefajmdkaaGreatRow3
import Derived.Test.YtefgamefajmdkaaGreatLex
import Derived.Test.YtefgamefajmdkaaGreatC11
import Derived.Test.YtefgamefajmdkaaGreatLayC
set_option linter.all false
set_option maxRecDepth 1000000
set_option maxHeartbeats 4000000
namespace Go.Proofs.YtefgamefajmdkaaGreat.Abs
open Go.Proofs Go.RowKit Go.Sort
structure Bf (p:Lit→Bool) (l:List Lit) (i j:Nat) (dk:List Lit):Prop where
 ij:i < j
 jl:j≤l.length
 len:dk.length=l.length
 kept:dk.take i=(l.take j).filter fun x=> !p x
 rest:dk.drop j=l.drop j
theorem Bf.start {p:Lit→Bool} {l:List Lit} {k:Nat} {x:Lit} (hx:l[k]? =some x) (hp:p x=true) (ha:∀y∈l.take k,p y=false):Bf p l k (k+1) l:=by
 obtain⟨hk,rfl⟩:=List.getElem?_eq_some_iff.1 hx
 refine⟨by omega,by omega,rfl,?_,rfl⟩
 rw [List.take_succ_eq_append_getElem hk,List.filter_append,List.filter_eq_self.2 (fun y hy=>by simp [ha y hy])]
 simp [hp]
theorem Bf.at {p:Lit→Bool} {l dk:List Lit} {i j:Nat} (h:Bf p l i j dk) {x:Lit} (hx:l[j]? =some x):dk[j]? =some x:=by
 have:(dk.drop j)[0]? =(l.drop j)[0]? :=by rw [h.rest]
 simpa [hx] using this
theorem Bf.skip {p:Lit→Bool} {l dk:List Lit} {i j:Nat} (h:Bf p l i j dk) {x:Lit} (hx:l[j]? =some x) (hp:p x=true):Bf p l i (j+1) dk:=by
 obtain⟨hj,rfl⟩:=List.getElem?_eq_some_iff.1 hx
 refine⟨by have:=h.ij;omega,by omega,h.len,?_,?_⟩
 ·rw [List.take_succ_eq_append_getElem hj,List.filter_append,h.kept];simp [hp]
 ·rw [← List.drop_drop, ← List.drop_drop,h.rest]
theorem Bf.keep {p:Lit→Bool} {l dk:List Lit} {i j:Nat} (h:Bf p l i j dk) {x:Lit} (hx:l[j]? =some x) (hp:p x=false):Bf p l (i+1) (j+1) (dk.set i x):=by
 obtain⟨hj,rfl⟩:=List.getElem?_eq_some_iff.1 hx
 have hi:=h.ij
 have hlen:=h.len
 refine⟨by omega,by omega,by simpa using h.len,?_,?_⟩
 ·rw [List.take_succ_eq_append_getElem hj,List.filter_append,List.take_succ_eq_append_getElem (by simp;omega),List.take_set_of_le (Nat.le_refl _),h.kept]
  simp [hp]
 ·rw [List.drop_set_of_lt (by omega), ← List.drop_drop, ← List.drop_drop,h.rest]
set_option maxRecDepth 100000
open Go.Proofs Go.RowKit Go.Sort
def gT (l:List Lit) (x:Lit):List Lit:=l.filter fun y=> !dD y x
end Go.Proofs.YtefgamefajmdkaaGreat.Abs
