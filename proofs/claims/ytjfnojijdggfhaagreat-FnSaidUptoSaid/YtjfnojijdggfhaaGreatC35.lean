/- Contracts: lines picked as separate data; proofs that are trimmed. -/
import Derived.Test.YtjfnojijdggfhaaGreatC12
import Derived.Test.YtjfnojijdggfhaaGreatLayC
set_option linter.all false
set_option maxRecDepth 20000
set_option maxHeartbeats 0
namespace Go.Proofs.YtjfnojijdggfhaaGreat.Abs
open Go.Proofs Go.RowKit
open Go.Proofs Go.RowKit
end Go.Proofs.YtjfnojijdggfhaaGreat.Abs
