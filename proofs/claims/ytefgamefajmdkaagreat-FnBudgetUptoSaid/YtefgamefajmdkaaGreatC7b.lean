/- Contracts: the least of the modes, by the reference. -/
import Derived.Test.YtefgamefajmdkaaGreatC7
set_option linter.all false
set_option maxRecDepth 20000
set_option maxHeartbeats 0
namespace Go.Proofs.YtefgamefajmdkaaGreat.Abs
open Go.Proofs
end Go.Proofs.YtefgamefajmdkaaGreat.Abs
