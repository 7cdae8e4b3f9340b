/- Contracts: logs as separate data: decisions. -/
import Derived.Test.YtefgamefajmdkaaGreatLg
import Derived.Test.YtefgamefajmdkaaGreatC15
set_option linter.all false
set_option maxRecDepth 20000
set_option maxHeartbeats 0
namespace Go.Proofs.YtefgamefajmdkaaGreat.Abs
open Go.Proofs Go.RowKit
attribute [local irreducible] eZ fE aI status litValue
theorem Qn {g:Lg} (h:vG g=true):g.decs.length≤20:=by
 simp only [vG,Bool.and_eq_true,Bool.not_eq_true',decide_eq_false_iff_not] at h
 omega
end Go.Proofs.YtefgamefajmdkaaGreat.Abs
