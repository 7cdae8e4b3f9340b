/- Contracts: logs as separate data: decisions. -/
import Derived.Test.YtefgamefajmdkaaGreatLg
import Derived.Test.YtefgamefajmdkaaGreatC15
set_option linter.all false
set_option maxRecDepth 20000
set_option maxHeartbeats 0
namespace Go.Proofs.YtefgamefajmdkaaGreat.Abs
open Go.Proofs Go.RowKit
attribute [local irreducible] bJ gF aM status litValue
end Go.Proofs.YtefgamefajmdkaaGreat.Abs
