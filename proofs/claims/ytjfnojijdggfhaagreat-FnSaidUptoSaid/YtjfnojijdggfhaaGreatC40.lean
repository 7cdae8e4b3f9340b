/- Contracts: propagation, as separate data. -/
import Derived.Test.YtjfnojijdggfhaaGreatC35
import Derived.Test.YtjfnojijdggfhaaGreatC33
set_option linter.all false
set_option maxRecDepth 20000
set_option maxHeartbeats 0
namespace Go.Proofs.YtjfnojijdggfhaaGreat.Abs
open Go.Proofs Go.RowKit
attribute [local irreducible] nL aA within
end Go.Proofs.YtjfnojijdggfhaaGreat.Abs
