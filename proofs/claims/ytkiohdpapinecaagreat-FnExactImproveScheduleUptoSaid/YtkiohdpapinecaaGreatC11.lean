/- Contracts: what a rule refutes, what follows from it. No statement of a claim. -/
import Derived.Test.YtkiohdpapinecaaGreatC10
set_option linter.all false
set_option linter.unusedVariables false
set_option linter.unusedSimpArgs false
set_option maxRecDepth 20000
set_option maxHeartbeats 4000000
namespace Go.Proofs.YtkiohdpapinecaaGreat.Abs
open Go.Proofs
inductive RuleKind (p:Proj) (r:Rul):Prop
 | link (h:r.kind=1) (k:Nat) (l:Link) (e:r.a=k) (hl:p.links[k]? =some l)
 | fin (h:r.kind=2) (ha:hasAct p r.a=true)
 | time (h:r.kind=3) (ha:hasRes p r.a=true) (hb:isTime r.b=true)
 | work (h:r.kind=4) (ha:hasRes p r.a=true) (hb:isTime r.b=true) (hc:isTime r.c=true) (hlt:r.b < r.c)
 | pair (h:r.kind=5) (ha:isMach p r.a=true) (hb:hasAct p r.b=true) (hc:hasAct p r.c=true) (hlt:r.b < r.c)
 | stock (h:r.kind=6) (ha:hasStock p r.a=true)
end Go.Proofs.YtkiohdpapinecaaGreat.Abs
