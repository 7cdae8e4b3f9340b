/- Contracts: logs that are made, copied, and grow. -/
import Derived.Test.YtjfnojijdggfhaaGreatC35
import Derived.Test.YtjfnojijdggfhaaGreatC30
import Derived.Test.YtjfnojijdggfhaaGreatPlain
set_option linter.all false
set_option maxRecDepth 20000
set_option maxHeartbeats 0
namespace Go.Proofs.YtjfnojijdggfhaaGreat.Abs
open Go.Proofs Go.RowKit
attribute [local irreducible] nL EW wN status litValue
end Go.Proofs.YtjfnojijdggfhaaGreat.Abs
namespace Go.Proofs.YtjfnojijdggfhaaGreat.Abs
open Go.Proofs Go.RowKit
attribute [local irreducible] nL EW wN status litValue
end Go.Proofs.YtjfnojijdggfhaaGreat.Abs
namespace Go.Proofs.YtjfnojijdggfhaaGreat.Abs
open Go.Proofs Go.RowKit
attribute [local irreducible] nL EW wN status litValue
end Go.Proofs.YtjfnojijdggfhaaGreat.Abs
