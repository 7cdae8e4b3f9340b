/- Contracts: rules of projects, one behind the other: the program. No statement of a claim. -/
import Derived.Test.YtfhojdalheinaaaGreatC11
import Derived.Test.YtfhojdalheinaaaGreatPlain
set_option linter.all false
set_option linter.unusedVariables false
set_option linter.unusedSimpArgs false
set_option maxRecDepth 20000
set_option maxHeartbeats 4000000
namespace Go.Proofs.YtfhojdalheinaaaGreat.Abs
open Go.Proofs
end Go.Proofs.YtfhojdalheinaaaGreat.Abs
