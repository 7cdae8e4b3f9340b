/- Contracts: the rules that may refute. No statement of a claim. -/
import Derived.Test.YtepogmnolnlpmaaGreatC28
set_option linter.all false
set_option linter.unusedVariables false
set_option linter.unusedSimpArgs false
set_option maxRecDepth 20000
set_option maxHeartbeats 4000000
namespace Go.Proofs.YtepogmnolnlpmaaGreat.Abs
open Go.Proofs
def plainRules (p:Proj):List Rul:=(List.range p.links.length).map linkRule++(List.range p.acts.length).map endRule++(List.range p.stocks.length).map stockRule
def pairRules (p:Proj):List Rul:=(List.range p.ress.length).flatMap fun r=>(List.range p.acts.length).flatMap (pairsOf p r)
def timesAt (b:Dom) (x:Resrc):List Int:=(setOf (b.hi++x.steps.map Step.at')).filter isTime
def tRule (i:Nat) (t:Int):Rul:=⟨3,i,t,0⟩
def wRule (i:Nat) (q:List Int):Rul:=⟨4,i,q.getD 0 0,q.getD 1 0⟩
def resRules (p:Proj) (b:Dom) (i:Nat):List Rul:=
 match p.ress[i]? with
 | some x=>(timesAt b x).map (tRule i)++(intervals p b).map (wRule i)
 | none=>[]
def candAll (p:Proj) (b:Dom):List Rul:=plainRules p++(List.range p.ress.length).flatMap (resRules p b)++pairRules p
def candRules (p:Proj) (b:Dom):List Rul:=if usable p b=true then candAll p b else []
def isPlain (r:Rul):Bool:=decide (r.kind=1)||decide (r.kind=2)||decide (r.kind=6)
def isPair (r:Rul):Bool:=decide (r.kind=5)
theorem flatMap_len {α β:Type} {f:α→List β} {c:Nat}:∀{l:List α},(∀x∈l,(f x).length≤c)→(l.flatMap f).length≤c*l.length
 | [],_=>by simp
 | x::l,h=>by
  have h1:=h x (by simp)
  have h2:=flatMap_len (l:=l) fun y hy=>h y (by simp [hy])
  simp only [List.flatMap_cons,List.length_append,List.length_cons,Nat.mul_add];omega
end Go.Proofs.YtepogmnolnlpmaaGreat.Abs
