/- Contracts: the least of the modes, by the reference. -/
import Derived.Test.YtjfnojijdggfhaaGreatC7
set_option linter.all false
set_option maxRecDepth 20000
set_option maxHeartbeats 0
namespace Go.Proofs.YtjfnojijdggfhaaGreat.Abs
open Go.Proofs
end Go.Proofs.YtjfnojijdggfhaaGreat.Abs
