/- Contracts of the laws' own held.. on what mark.. has written. -/
import Derived.Test.YtefgamefajmdkaaGreatC1
import Derived.Test.YtefgamefajmdkaaGreatPlain
import Derived.WalkKit
import Derived.Deep.LoopGhost
import Derived.Lib.Hide
import Derived.Sort.WalkB12
import Derived.Test.YtefgamefajmdkaaGreatLayC
set_option linter.all false
set_option maxRecDepth 20000
set_option maxHeartbeats 0
namespace Go.Proofs.YtefgamefajmdkaaGreat.Abs
open Go.Proofs
set_option maxRecDepth 100000
set_option maxHeartbeats 4000000
open Go.Proofs Go.RowKit Go.Sort
def KE:List Lit→List Int
 |[]=>[]
 |x::l=>x.kind::x.act::x.val::KE l
theorem Nb:∀{l:List Lit} {j:Nat} {x:Lit},l[j]? =some x→(KE l)[3*j]? =some x.kind∧(KE l)[3*j+1]? =some x.act∧(KE l)[3*j+2]? =some x.val
 |[],j,x,h=>by simp at h
 |y::l,0,x,h=>by simp at h;subst h;simp [KE]
 |y::l,j+1,x,h=>by
  have:=Nb (l:=l) (j:=j) (by simpa using h)
  rw [show 3*(j+1)=3*j+1+1+1 by omega]
  simp only [KE,List.getElem?_cons_succ]
  exact this
end Go.Proofs.YtefgamefajmdkaaGreat.Abs
