/- Contracts: lines picked as separate data; proofs that are trimmed. -/
import Derived.Test.YtefgamefajmdkaaGreatC12
import Derived.Test.YtefgamefajmdkaaGreatLayC
set_option linter.all false
set_option maxRecDepth 20000
set_option maxHeartbeats 0
namespace Go.Proofs.YtefgamefajmdkaaGreat.Abs
open Go.Proofs Go.RowKit
open Go.Proofs Go.RowKit
end Go.Proofs.YtefgamefajmdkaaGreat.Abs
