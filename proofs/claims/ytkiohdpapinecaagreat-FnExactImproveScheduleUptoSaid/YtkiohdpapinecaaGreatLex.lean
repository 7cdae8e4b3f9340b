/- Contracts of the laws' own held.. on what mark.. has written. No statement of a claim. -/
import Derived.Test.YtkiohdpapinecaaGreatC1
import Derived.Test.YtkiohdpapinecaaGreatPlain
import Derived.WalkKit
import Derived.Deep.LoopGhost
import Derived.Lib.Hide
import Derived.Sort.WalkB12
import Derived.Test.YtkiohdpapinecaaGreatLayC
set_option linter.all false
set_option linter.unusedVariables false
set_option linter.unusedSimpArgs false
set_option maxRecDepth 20000
set_option maxHeartbeats 4000000
namespace Go.Proofs.YtkiohdpapinecaaGreat.Abs
open Go.Proofs
def markI:Int→List Int→List Int
 | _,[]=>[]
 | n,_::l=>n::markI (n+1) l
def markL:Int→List Lit→List Lit
 | _,[]=>[]
 | n,_::l=>⟨n,n+1,n+2⟩::markL (n+3) l
end Go.Proofs.YtkiohdpapinecaaGreat.Abs
set_option linter.unusedVariables false
set_option maxRecDepth 100000
set_option maxHeartbeats 4000000
namespace Go.Proofs.YtkiohdpapinecaaGreat.Abs
open Go.Proofs Go.RowKit Go.Sort
theorem putRow_same {α:Type} [Inhabited α] (enc:α→Value) (w:World) (b o:Nat) (d:Array α) {k:Nat} (h:k≠b):(putRow enc w b o d).heap[k]? =w.heap[k]? :=by
 simp only [putRow,mapBlock,Array.getElem?_modify]
 rw [if_neg (fun e=>h e.symm)]
def MarkPost (G:Nat→Prop) (L:Nat) (w:World) (v:Value) (l l':List AV) (M:Int) (e:Ending) (w':World):Prop:=e= .returned (.int .i64 M)∧
  w'.os=w.os∧w'.tape=w.tape∧w'.output=w.output∧w'.heap.size=w.heap.size∧(∀k,(l≠[]→v.ownBlock≠some k)→w'.heap[k]? =w.heap[k]?)∧RepV G w' L (.sl l') v
def flatL:List Lit→List Int
 | []=>[]
 | x::l=>x.kind::x.act::x.val::flatL l
end Go.Proofs.YtkiohdpapinecaaGreat.Abs
