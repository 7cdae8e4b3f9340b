/- Contracts of the laws' own held.. on what mark.. has written. No statement of a claim. -/
import Derived.Test.YtfhojdalheinaaaGreatC1
import Derived.Test.YtfhojdalheinaaaGreatPlain
import Derived.WalkKit
import Derived.Deep.LoopGhost
import Derived.Lib.Hide
import Derived.Sort.WalkB12
import Derived.Test.YtfhojdalheinaaaGreatLayC
set_option linter.all false
set_option linter.unusedVariables false
set_option linter.unusedSimpArgs false
set_option maxRecDepth 20000
set_option maxHeartbeats 4000000
namespace Go.Proofs.YtfhojdalheinaaaGreat.Abs
open Go.Proofs
def markI:Int→List Int→List Int
 | _,[]=>[]
 | n,_::l=>n::markI (n+1) l
def markL:Int→List Lit→List Lit
 | _,[]=>[]
 | n,_::l=>⟨n,n+1,n+2⟩::markL (n+3) l
end Go.Proofs.YtfhojdalheinaaaGreat.Abs
set_option linter.unusedVariables false
set_option maxRecDepth 100000
set_option maxHeartbeats 4000000
namespace Go.Proofs.YtfhojdalheinaaaGreat.Abs
open Go.Proofs Go.RowKit Go.Sort
def MarkPost (G:Nat→Prop) (L:Nat) (w:World) (v:Value) (l l':List AV) (M:Int) (e:Ending) (w':World):Prop:=e= .returned (.int .i64 M)∧
  w'.os=w.os∧w'.tape=w.tape∧w'.output=w.output∧w'.heap.size=w.heap.size∧(∀k,(l≠[]→v.ownBlock≠some k)→w'.heap[k]? =w.heap[k]?)∧RepV G w' L (.sl l') v
def flatL:List Lit→List Int
 | []=>[]
 | x::l=>x.kind::x.act::x.val::flatL l
theorem flatL_get:∀{l:List Lit} {j:Nat} {x:Lit},l[j]? =some x→(flatL l)[3*j]? =some x.kind∧(flatL l)[3*j+1]? =some x.act∧(flatL l)[3*j+2]? =some x.val
 | [],j,x,h=>by simp at h
 | y::l,0,x,h=>by simp at h;subst h;simp [flatL]
 | y::l,j+1,x,h=>by
  have:=flatL_get (l:=l) (j:=j) (by simpa using h)
  rw [show 3*(j+1)=3*j+1+1+1 by omega]
  simp only [flatL,List.getElem?_cons_succ]
  exact this
end Go.Proofs.YtfhojdalheinaaaGreat.Abs
