/- Contracts of the laws' own held.. on what mark.. has written. No statement of a claim. -/
import Derived.Test.YtfhojdalheinaaaGreatC1
import Derived.Test.YtfhojdalheinaaaGreatPlain
import Derived.WalkKit
import Derived.Deep.LoopGhost
import Derived.Lib.Hide
import Derived.Sort.WalkB12
import Derived.Test.YtfhojdalheinaaaGreatLayC
set_option linter.all false
set_option linter.unusedVariables false
set_option linter.unusedSimpArgs false
set_option maxRecDepth 20000
set_option maxHeartbeats 4000000
namespace Go.Proofs.YtfhojdalheinaaaGreat.Abs
open Go.Proofs
def markI:Int→List Int→List Int
 | _,[]=>[]
 | n,_::l=>n::markI (n+1) l
def markL:Int→List Lit→List Lit
 | _,[]=>[]
 | n,_::l=>⟨n,n+1,n+2⟩::markL (n+3) l
end Go.Proofs.YtfhojdalheinaaaGreat.Abs
set_option linter.unusedVariables false
set_option maxRecDepth 100000
set_option maxHeartbeats 4000000
namespace Go.Proofs.YtfhojdalheinaaaGreat.Abs
open Go.Proofs Go.RowKit Go.Sort
theorem putRow_same {α:Type} [Inhabited α] (enc:α→Value) (w:World) (b o:Nat) (d:Array α) {k:Nat} (h:k≠b):(putRow enc w b o d).heap[k]? =w.heap[k]? :=by
 simp only [putRow,mapBlock,Array.getElem?_modify]
 rw [if_neg (fun e=>h e.symm)]
def MarkPost (G:Nat→Prop) (L:Nat) (w:World) (v:Value) (l l':List AV) (M:Int) (e:Ending) (w':World):Prop:=e= .returned (.int .i64 M)∧
  w'.os=w.os∧w'.tape=w.tape∧w'.output=w.output∧w'.heap.size=w.heap.size∧(∀k,(l≠[]→v.ownBlock≠some k)→w'.heap[k]? =w.heap[k]?)∧RepV G w' L (.sl l') v
theorem repE_lits {I:Nat→Prop} {w:World} {L b:Nat}:∀{l:List Lit} {o:Nat},RepE I w L b 3 (l.map Lit.av) o↔∀j x,l[j]? =some x→w.cell? ⟨b,o+3*j,none⟩=some (.int .i64 x.kind)∧w.cell? ⟨b,o+3*j+1,none⟩=some (.int .i64 x.act)∧w.cell? ⟨b,o+3*j+2,none⟩=some (.int .i64 x.val)
 | [],o=>by simp [RepE]
 | x::l,o=>by
  simp only [List.map_cons,RepE,repE_lits,repX_iff]
  simp only [AV.cells,List.length_cons,List.length_nil,true_and,RepC,Rep1,and_true]
  constructor
  ·rintro⟨⟨⟨v1,h1,rfl⟩,⟨v2,h2,rfl⟩,⟨v3,h3,rfl⟩⟩,h4⟩ j y hj
   cases j with
   | zero=>simp at hj;subst hj;exact⟨by simpa using h1,by simpa using h2,by simpa [Nat.add_assoc] using h3⟩
   | succ j=>
    have:=h4 j y (by simpa using hj)
    rwa [show o+3+3*j=o+3*(j+1) by omega] at this
  ·intro h
   obtain⟨h1,h2,h3⟩:=h 0 x rfl
   refine⟨⟨⟨_,by simpa using h1,rfl⟩,⟨_,by simpa using h2,rfl⟩,⟨_,by simpa [Nat.add_assoc] using h3,rfl⟩⟩,fun j y hj=>?_⟩
   have:=h (j+1) y (by simpa using hj)
   rwa [show o+3*(j+1)=o+3+3*j by omega] at this
def flatL:List Lit→List Int
 | []=>[]
 | x::l=>x.kind::x.act::x.val::flatL l
theorem flatL_length:∀l:List Lit,(flatL l).length=3*l.length
 | []=>rfl
 | x::l=>by simp only [flatL,List.length_cons,flatL_length l];omega
theorem flatL_get:∀{l:List Lit} {j:Nat} {x:Lit},l[j]? =some x→(flatL l)[3*j]? =some x.kind∧(flatL l)[3*j+1]? =some x.act∧(flatL l)[3*j+2]? =some x.val
 | [],j,x,h=>by simp at h
 | y::l,0,x,h=>by simp at h;subst h;simp [flatL]
 | y::l,j+1,x,h=>by
  have:=flatL_get (l:=l) (j:=j) (by simpa using h)
  rw [show 3*(j+1)=3*j+1+1+1 by omega]
  simp only [flatL,List.getElem?_cons_succ]
  exact this
end Go.Proofs.YtfhojdalheinaaaGreat.Abs
