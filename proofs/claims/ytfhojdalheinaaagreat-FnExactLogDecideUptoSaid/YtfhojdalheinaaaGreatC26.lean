/- Contracts: a domain's literals; refutations are explained. No statement of a claim. -/
import Derived.Test.YtfhojdalheinaaaGreatNd
set_option linter.all false
set_option linter.unusedVariables false
set_option linter.unusedSimpArgs false
set_option maxRecDepth 20000
set_option maxHeartbeats 4000000
namespace Go.Proofs.YtfhojdalheinaaaGreat.Abs
open Go.Proofs
def setDiff (a b:List Int):List Int:=setOf (a.filter fun n=> !b.contains n)
def loLit (k:Nat) (x:Int):List Lit:=if x > 0 then [⟨1,k,x⟩] else []
def hiLit (d:Int) (k:Nat) (y:Int):List Lit:=if y < d - 1 then [⟨2,k,y⟩] else []
def noLits (k:Nat) (l:List Int):List Lit:=l.map fun n=>⟨4,k,n⟩
def domLitsAt (p:Proj) (b:Dom) (k:Nat):List Lit:=
 match p.acts[k]?,b.lo[k]?,b.hi[k]?,b.modes[k]? with
 | some a,some x,some y,some m=>loLit k x++hiLit p.dead k y++noLits k (setDiff (intRange a.modes.length) m)
 | _,_,_,_=>[]
def domLitsN (p:Proj) (b:Dom):Nat→List Lit
 | 0=>[]
 | k+1=>domLitsN p b k++domLitsAt p b k
def domLits (p:Proj) (b:Dom):List Lit:=if domForm p b=true then domLitsN p b p.acts.length else []
def negs (p:Proj) (b:Dom):List Lit:=(domLits p b).map negate
def explain (p:Proj) (b:Dom) (r:Rul):List Lit:=if refutes p b r=true then shortened p r (fun _=>false) (newClause (negs p b)) else []
end Go.Proofs.YtfhojdalheinaaaGreat.Abs
