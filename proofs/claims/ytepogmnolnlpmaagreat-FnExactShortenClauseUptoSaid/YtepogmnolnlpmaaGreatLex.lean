/- Contracts of the laws' own held.. on what mark.. has written. No statement of a claim. -/
import Derived.Test.YtepogmnolnlpmaaGreatC1
import Derived.Test.YtepogmnolnlpmaaGreatPlain
import Derived.WalkKit
import Derived.Deep.LoopGhost
import Derived.Lib.Hide
import Derived.Sort.WalkB12
import Derived.Test.YtepogmnolnlpmaaGreatLayC
set_option linter.all false
set_option linter.unusedVariables false
set_option linter.unusedSimpArgs false
set_option maxRecDepth 20000
set_option maxHeartbeats 4000000
namespace Go.Proofs.YtepogmnolnlpmaaGreat.Abs
open Go.Proofs
def markI:Int→List Int→List Int
 | _,[]=>[]
 | n,_::l=>n::markI (n+1) l
def markL:Int→List Lit→List Lit
 | _,[]=>[]
 | n,_::l=>⟨n,n+1,n+2⟩::markL (n+3) l
theorem markL_length:∀(n:Int) (l:List Lit),(markL n l).length=l.length
 | _,[]=>rfl
 | n,_::l=>by simp only [markL,List.length_cons,markL_length (n+3) l]
theorem markL_get:∀(n:Int) (l:List Lit) (k:Nat),k < l.length→(markL n l)[k]? =some ⟨n+3*k,n+3*k+1,n+3*k+2⟩
 | _,[],k,h=>by simp at h
 | n,_::l,0,_=>by simp [markL]
 | n,_::l,k+1,h=>by
  simp only [markL,List.getElem?_cons_succ]
  rw [markL_get (n+3) l k (by simpa using h)]
  congr 1;congr 1 <;> push_cast <;> omega
theorem laws_heldLiteralS (l:List Lit) (n:Int) (hn:0≤n∧n+3*l.length≤4611686018427387904):Con 20 [.d (lits (markL n l)),.d (i64 n)] (.d (i64 (n+3*l.length))):=by
 refine con Tryz.func20 rfl rfl Tryz.call20 rfl fun hwf=>?_
 simp only [ARs.wf,AR.wf,AV.wf,AV.wfs,List.length_map,lim,markL_length] at hwf
 have hlen:=markL_length n l
 (repeat' ((conv=>whnf);first | refine gA ?_ | ((with_reducible first | refine gD (fun h=>?_) (fun h=>?_) | refine gE (fun h=>?_) (fun h=>?_)) <;> (try simp only [lm] at h) <;> try have hw:=wn h) | with_reducible refine gI (fun x hx=>?_) | with_reducible refine gJ (fun j x hj hx=>?_) | refine gV ?_ | intro _)) <;> (try (conv=>whnf))
 refine loopF [0] [] [] ?_
 (conv=>whnf)
 refine LoopC.go ((Nat)×(Int)) (fun⟨k,m⟩=>(k≤l.length)∧(m=n+3*k)) (fun⟨k,m⟩=>[(5,.data (i64 k)),(1,.data (i64 m))]) (fun _=>[]) (fun _=>[]) (fun⟨k,m⟩=>l.length - k) ⟨0,n⟩ ?_ ?_
 ·exact⟨Nat.zero_le _,by simp⟩
 rintro⟨k,m⟩ ⟨hk,hm⟩
 by_cases hlt:k < l.length
 ·have hx:=markL_get n l k hlt
  (repeat' ((conv=>whnf);first | with_reducible refine Idx.got hx rfl ?_ | refine gA ?_ | ((with_reducible first | refine gD (fun h=>?_) (fun h=>?_) | refine gE (fun h=>?_) (fun h=>?_)) <;> (try simp only [lm] at h) <;> try have hw:=wn h) | with_reducible refine gI (fun x hx=>?_) | with_reducible refine gJ (fun j x hj hx=>?_) | refine gV ?_ | intro _)) <;> (try (conv=>whnf))
  all_goals first
   | (exfalso;omega)
   | (apply Exists.intro (⟨k+1,_⟩)
      refine⟨?_,rfl,?_,?_⟩
      rotate_left
      ·(repeat' ((conv=>whnf) <;> (first | exact trivial | exact rfl | with_reducible refine And.intro ?_ ?_)))
      ·(try dsimp only);(try simp only [List.length_map]);omega
      exact⟨hlt,by omega⟩)
 ·(repeat' ((conv=>whnf);first | (exfalso;omega) | refine gA ?_ | ((with_reducible first | refine gD (fun h=>?_) (fun h=>?_) | refine gE (fun h=>?_) (fun h=>?_)) <;> (try simp only [lm] at h) <;> try have hw:=wn h) | with_reducible refine gI (fun x hx=>?_) | with_reducible refine gJ (fun j x hj hx=>?_) | refine gV ?_ | intro _)) <;> (try (conv=>whnf))
  refine⟨?_,rfl,trivial⟩
  have:k=l.length:=by omega
  rw [hm,this]
end Go.Proofs.YtepogmnolnlpmaaGreat.Abs
set_option linter.unusedVariables false
set_option maxRecDepth 100000
set_option maxHeartbeats 4000000
namespace Go.Proofs.YtepogmnolnlpmaaGreat.Abs
open Go.Proofs Go.RowKit Go.Sort
theorem putRow_same {α:Type} [Inhabited α] (enc:α→Value) (w:World) (b o:Nat) (d:Array α) {k:Nat} (h:k≠b):(putRow enc w b o d).heap[k]? =w.heap[k]? :=by
 simp only [putRow,mapBlock,Array.getElem?_modify]
 rw [if_neg (fun e=>h e.symm)]
def MarkPost (G:Nat→Prop) (L:Nat) (w:World) (v:Value) (l l':List AV) (M:Int) (e:Ending) (w':World):Prop:=e= .returned (.int .i64 M)∧
  w'.os=w.os∧w'.tape=w.tape∧w'.output=w.output∧w'.heap.size=w.heap.size∧(∀k,(l≠[]→v.ownBlock≠some k)→w'.heap[k]? =w.heap[k]?)∧RepV G w' L (.sl l') v
theorem repE_lits {I:Nat→Prop} {w:World} {L b:Nat}:∀{l:List Lit} {o:Nat},RepE I w L b 3 (l.map Lit.av) o↔∀j x,l[j]? =some x→w.cell? ⟨b,o+3*j,none⟩=some (.int .i64 x.kind)∧w.cell? ⟨b,o+3*j+1,none⟩=some (.int .i64 x.act)∧w.cell? ⟨b,o+3*j+2,none⟩=some (.int .i64 x.val)
 | [],o=>by simp [RepE]
 | x::l,o=>by
  simp only [List.map_cons,RepE,repE_lits,repX_iff]
  simp only [AV.cells,List.length_cons,List.length_nil,true_and,RepC,Rep1,and_true]
  constructor
  ·rintro⟨⟨⟨v1,h1,rfl⟩,⟨v2,h2,rfl⟩,⟨v3,h3,rfl⟩⟩,h4⟩ j y hj
   cases j with
   | zero=>simp at hj;subst hj;exact⟨by simpa using h1,by simpa using h2,by simpa [Nat.add_assoc] using h3⟩
   | succ j=>
    have:=h4 j y (by simpa using hj)
    rwa [show o+3+3*j=o+3*(j+1) by omega] at this
  ·intro h
   obtain⟨h1,h2,h3⟩:=h 0 x rfl
   refine⟨⟨⟨_,by simpa using h1,rfl⟩,⟨_,by simpa using h2,rfl⟩,⟨_,by simpa [Nat.add_assoc] using h3,rfl⟩⟩,fun j y hj=>?_⟩
   have:=h (j+1) y (by simpa using hj)
   rwa [show o+3*(j+1)=o+3+3*j by omega] at this
def flatL:List Lit→List Int
 | []=>[]
 | x::l=>x.kind::x.act::x.val::flatL l
theorem flatL_length:∀l:List Lit,(flatL l).length=3*l.length
 | []=>rfl
 | x::l=>by simp only [flatL,List.length_cons,flatL_length l];omega
theorem flatL_get:∀{l:List Lit} {j:Nat} {x:Lit},l[j]? =some x→(flatL l)[3*j]? =some x.kind∧(flatL l)[3*j+1]? =some x.act∧(flatL l)[3*j+2]? =some x.val
 | [],j,x,h=>by simp at h
 | y::l,0,x,h=>by simp at h;subst h;simp [flatL]
 | y::l,j+1,x,h=>by
  have:=flatL_get (l:=l) (j:=j) (by simpa using h)
  rw [show 3*(j+1)=3*j+1+1+1 by omega]
  simp only [flatL,List.getElem?_cons_succ]
  exact this
theorem holds_lits {w:World} {b o:Nat} (hth:Thaw w b) {l:List Lit} (h:∀j x,l[j]? =some x→w.cell? ⟨b,o+3*j,none⟩=some (.int .i64 x.kind)∧w.cell? ⟨b,o+3*j+1,none⟩=some (.int .i64 x.act)∧w.cell? ⟨b,o+3*j+2,none⟩=some (.int .i64 x.val)):
  Holds (Value.int .i64) w b o (flatL l).toArray:=by
 intro i hi
 have hi':i < 3*l.length:=by simpa [flatL_length] using hi
 refine⟨?_,hth _⟩
 have hj:i / 3 < l.length:=by omega
 obtain⟨x,hx⟩:∃x,l[i / 3]? =some x:=⟨l[i / 3],by simp [hj]⟩
 obtain⟨h1,h2,h3⟩:=h _ x hx
 obtain⟨f1,f2,f3⟩:=flatL_get hx
 have key:∀(k:Nat) (y:Int),i=k→(flatL l)[k]? =some y→w.cell? ⟨b,o+k,none⟩=some (.int .i64 y)→w.cell? ⟨b,o+i,none⟩=some (.int .i64 (flatL l).toArray[i]!):=by
  rintro k y rfl hy hc
  rw [hc]
  have:(flatL l).toArray[i]! =y:=by
   rw [getElem!_pos _ i hi]
   have:=List.getElem?_eq_some_iff.1 hy
   obtain⟨_,e⟩:=this
   simpa using e
  rw [this]
 rcases (by omega:i=3*(i / 3)∨i=3*(i / 3)+1∨i=3*(i / 3)+2) with e | e | e
 ·exact key _ _ e f1 h1
 ·exact key _ _ e f2 (by rw [← Nat.add_assoc];exact h2)
 ·exact key _ _ e f3 (by rw [← Nat.add_assoc];exact h3)
end Go.Proofs.YtepogmnolnlpmaaGreat.Abs
