/- Contracts: domains within others, logs. -/
import Derived.Test.YtefgamefajmdkaaGreatC12
import Derived.Test.YtefgamefajmdkaaGreatPlain
set_option linter.all false
set_option maxRecDepth 20000
set_option maxHeartbeats 0
namespace Go.Proofs.YtefgamefajmdkaaGreat.Abs
open Go.Proofs
open Go.Proofs
end Go.Proofs.YtefgamefajmdkaaGreat.Abs
namespace Go.Proofs.YtefgamefajmdkaaGreat.Abs
open Go.Proofs
end Go.Proofs.YtefgamefajmdkaaGreat.Abs
