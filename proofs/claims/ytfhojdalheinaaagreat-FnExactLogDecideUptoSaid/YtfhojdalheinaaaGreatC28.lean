/- Contracts: intervals; the rules that may refute. No statement of a claim. -/
import Derived.Test.YtfhojdalheinaaaGreatC27
import Derived.Test.YtfhojdalheinaaaGreatC20a
set_option linter.all false
set_option linter.unusedVariables false
set_option linter.unusedSimpArgs false
set_option maxRecDepth 20000
set_option maxHeartbeats 4000000
namespace Go.Proofs.YtfhojdalheinaaaGreat.Abs
open Go.Proofs
def mrun:Bool→Int→List Int→Int
 | _,n,[]=>n
 | b,n,x::r=>mrun false (if b=true∨x > n then x else n) r
def maxDur (a:Activ) (ms:List Int):Int:=mrun true 0 ((chosen a ms).map Mode.dur)
def endOfA (p:Proj) (b:Dom) (i:Nat):Int:=b.hi.getD i 0+maxDur (actOf p i) (b.modes.getD i [])
def endsN (p:Proj) (b:Dom) (k:Nat):List Int:=(List.range k).map (endOfA p b)
abbrev ivEnds (p:Proj) (b:Dom):List Int:=setOf (endsN p b p.acts.length)
def okIv (x y:Int):Bool:=isTime x&&isTime y&&decide (x < y)
def ivRow (p:Proj) (b:Dom) (x:Int):List (List Int):=((ivEnds p b).filter (okIv x)).map fun y=>[x,y]
def intervals (p:Proj) (b:Dom):List (List Int):=if usable p b=true then (setOf b.lo).flatMap (ivRow p b) else []
end Go.Proofs.YtfhojdalheinaaaGreat.Abs
set_option linter.unusedVariables false
set_option linter.unusedSimpArgs false
set_option maxRecDepth 20000
set_option maxHeartbeats 4000000
namespace Go.Proofs.YtfhojdalheinaaaGreat.Abs
open Go.Proofs
def plainRules (p:Proj):List Rul:=(List.range p.links.length).map linkRule++(List.range p.acts.length).map endRule++(List.range p.stocks.length).map stockRule
def pairRules (p:Proj):List Rul:=(List.range p.ress.length).flatMap fun r=>(List.range p.acts.length).flatMap (pairsOf p r)
def timesAt (b:Dom) (x:Resrc):List Int:=(setOf (b.hi++x.steps.map Step.at')).filter isTime
def tRule (i:Nat) (t:Int):Rul:=⟨3,i,t,0⟩
def wRule (i:Nat) (q:List Int):Rul:=⟨4,i,q.getD 0 0,q.getD 1 0⟩
def resRules (p:Proj) (b:Dom) (i:Nat):List Rul:=
 match p.ress[i]? with
 | some x=>(timesAt b x).map (tRule i)++(intervals p b).map (wRule i)
 | none=>[]
def candAll (p:Proj) (b:Dom):List Rul:=plainRules p++(List.range p.ress.length).flatMap (resRules p b)++pairRules p
def candRules (p:Proj) (b:Dom):List Rul:=if usable p b=true then candAll p b else []
def isPlain (r:Rul):Bool:=decide (r.kind=1)||decide (r.kind=2)||decide (r.kind=6)
def isPair (r:Rul):Bool:=decide (r.kind=5)
end Go.Proofs.YtfhojdalheinaaaGreat.Abs
