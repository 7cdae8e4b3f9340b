/- Contracts: sets that grow. No statement of a claim. -/
import Derived.Test.YtfhojdalheinaaaGreatSet
import Derived.Test.YtfhojdalheinaaaGreatC9
import Derived.Test.YtfhojdalheinaaaGreatC26
set_option linter.all false
set_option linter.unusedVariables false
set_option linter.unusedSimpArgs false
set_option maxRecDepth 20000
set_option maxHeartbeats 4000000
namespace Go.Proofs.YtfhojdalheinaaaGreat.Abs
open Go.Proofs
end Go.Proofs.YtfhojdalheinaaaGreat.Abs
set_option linter.unusedVariables false
set_option linter.unusedSimpArgs false
set_option maxRecDepth 20000
set_option maxHeartbeats 4000000
namespace Go.Proofs.YtfhojdalheinaaaGreat.Abs
open Go.Proofs
def usesRes (p:Proj) (r:Int) (i:Int):Bool:=(actOf p i.toNat).modes.any fun m=>decide (m.use.getD r.toNat 0 > 0)
def users (p:Proj) (r:Int):List Int:=if projOk p=true∧hasRes p r=true then (upTo p.acts.length).filter (usesRes p r) else []
def someIf (b:Bool) (k:Int):List Int:=if b=true then [k] else []
def ruleActs (p:Proj) (r:Rul):List Int:=
 if ruleOk p r=true then
  if r.kind=1 then setOf [(linkOf p r.a).src,(linkOf p r.a).dst]
  else if r.kind=2 then [r.a] else if r.kind=5 then [r.b,r.c] else if r.kind=6 then intRange p.acts.length else users p r.a
 else []
end Go.Proofs.YtfhojdalheinaaaGreat.Abs
