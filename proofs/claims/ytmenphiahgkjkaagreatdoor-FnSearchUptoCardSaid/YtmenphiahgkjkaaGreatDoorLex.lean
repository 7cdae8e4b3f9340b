/- Contracts of the laws' own held.. on what mark.. has written. -/
import Derived.Test.YtmenphiahgkjkaaGreatDoorC1
import Derived.Test.YtmenphiahgkjkaaGreatDoorPlain
import Derived.WalkKit
import Derived.Deep.LoopGhost
import Derived.Lib.Hide
import Derived.Sort.WalkB12
import Derived.Test.YtmenphiahgkjkaaGreatDoorLayC
set_option linter.all false
set_option maxRecDepth 20000
set_option maxHeartbeats 0
namespace Go.Proofs.YtmenphiahgkjkaaGreatDoor.Abs
open Go.Proofs
set_option maxRecDepth 100000
set_option maxHeartbeats 4000000
open Go.Proofs Go.RowKit Go.Sort
theorem Tt {α:Type} [Inhabited α] (enc:α→Value) (w:World) (b o:Nat) (d:Array α) {k:Nat} (h:k≠b):(putRow enc w b o d).heap[k]? =w.heap[k]? :=by
 simp only [putRow,mapBlock,Array.getElem?_modify]
 rw [if_neg (fun e=>h e.symm)]
theorem Ou {I:Nat→Prop} {w:World} {L b:Nat}:∀{l:List Lit} {o:Nat},cZ I w L b 3 (l.map Lit.av) o↔∀j x,l[j]? =some x→w.cell? ⟨b,o+3*j,none⟩=some (.int .i64 x.kind)∧w.cell? ⟨b,o+3*j+1,none⟩=some (.int .i64 x.act)∧w.cell? ⟨b,o+3*j+2,none⟩=some (.int .i64 x.val)
 |[],o=>by simp [cZ]
 |x::l,o=>by
  simp only [List.map_cons,cZ,Ou,ow]
  simp only [AV.cells,List.length_cons,List.length_nil,true_and,cB,aG,and_true]
  constructor
  ·rintro⟨⟨⟨v1,h1,rfl⟩,⟨v2,h2,rfl⟩,⟨v3,h3,rfl⟩⟩,h4⟩ j y hj
   cases j with
   |zero=>simp at hj;subst hj;exact⟨by simpa using h1,by simpa using h2,by simpa [Nat.add_assoc] using h3⟩
   |succ j=>
    have:=h4 j y (by simpa using hj)
    rwa [show o+3+3*j=o+3*(j+1) by omega] at this
  ·intro h
   obtain⟨h1,h2,h3⟩:=h 0 x rfl
   refine⟨⟨⟨_,by simpa using h1,rfl⟩,⟨_,by simpa using h2,rfl⟩,⟨_,by simpa [Nat.add_assoc] using h3,rfl⟩⟩,fun j y hj=>?_⟩
   have:=h (j+1) y (by simpa using hj)
   rwa [show o+3*(j+1)=o+3+3*j by omega] at this
def dJ:List Lit→List Int
 |[]=>[]
 |x::l=>x.kind::x.act::x.val::dJ l
theorem gX:∀l:List Lit,(dJ l).length=3*l.length
 |[]=>rfl
 |x::l=>by simp only [dJ,List.length_cons,gX l];omega
theorem rZ:∀{l:List Lit} {j:Nat} {x:Lit},l[j]? =some x→(dJ l)[3*j]? =some x.kind∧(dJ l)[3*j+1]? =some x.act∧(dJ l)[3*j+2]? =some x.val
 |[],j,x,h=>by simp at h
 |y::l,0,x,h=>by simp at h;subst h;simp [dJ]
 |y::l,j+1,x,h=>by
  have:=rZ (l:=l) (j:=j) (by simpa using h)
  rw [show 3*(j+1)=3*j+1+1+1 by omega]
  simp only [dJ,List.getElem?_cons_succ]
  exact this
end Go.Proofs.YtmenphiahgkjkaaGreatDoor.Abs
