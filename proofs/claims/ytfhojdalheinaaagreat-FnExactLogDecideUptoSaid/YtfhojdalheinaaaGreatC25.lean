/- Contracts: a clause is shortened. No statement of a claim. -/
import Derived.Test.YtfhojdalheinaaaGreatC11
import Derived.Test.YtfhojdalheinaaaGreatWo
set_option linter.all false
set_option linter.unusedVariables false
set_option linter.unusedSimpArgs false
set_option maxRecDepth 20000
set_option maxHeartbeats 4000000
namespace Go.Proofs.YtfhojdalheinaaaGreat.Abs
open Go.Proofs
def shortStep (p:Proj) (r:Rul) (keeps:Lit→Bool) (out:List Lit) (x:Lit):List Lit:=
 if keeps x=true then out else if refutes p (negDom p (noLit out x)) r=true then noLit out x else out
def shortened (p:Proj) (r:Rul) (keeps:Lit→Bool) (l:List Lit):List Lit:=l.foldl (shortStep p r keeps) l
def indexL (x:Lit) (l:List Lit):Int:=findI (fun y=>sameLit x y) l 0
def shorten (p:Proj) (r:Rul) (l:List Lit) (keep:Int):List Lit:=if follows p r l=true then shortened p r (fun x=>decide (indexL x l=keep)) l else l
def keptOf (l:List Lit) (keep:Int):Lit:=if within keep 0 ((l.length:Int) - 1)=true then l.getD keep.toNat zeroLit else zeroLit
end Go.Proofs.YtfhojdalheinaaaGreat.Abs
