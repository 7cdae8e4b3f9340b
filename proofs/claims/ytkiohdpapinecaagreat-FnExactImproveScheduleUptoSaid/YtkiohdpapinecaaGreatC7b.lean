/- Contracts: the least of the modes, by the reference. No statement of a claim. -/
import Derived.Test.YtkiohdpapinecaaGreatC7
set_option linter.all false
set_option linter.unusedVariables false
set_option linter.unusedSimpArgs false
set_option maxRecDepth 20000
set_option maxHeartbeats 4000000
namespace Go.Proofs.YtkiohdpapinecaaGreat.Abs
open Go.Proofs
end Go.Proofs.YtkiohdpapinecaaGreat.Abs
