/- Contracts: logs as separate data: decisions. -/
import Derived.Test.YtmenphiahgkjkaaGreatDoorLg
import Derived.Test.YtmenphiahgkjkaaGreatDoorC15
set_option linter.all false
set_option maxRecDepth 20000
set_option maxHeartbeats 0
namespace Go.Proofs.YtmenphiahgkjkaaGreatDoor.Abs
open Go.Proofs Go.RowKit
attribute [local irreducible] bF fM aD status litValue
theorem VJ {g:Lg} (h:tu g=true):g.decs.length≤20:=by
 simp only [tu,Bool.and_eq_true,Bool.not_eq_true',decide_eq_false_iff_not] at h
 omega
end Go.Proofs.YtmenphiahgkjkaaGreatDoor.Abs
namespace Go.Proofs.YtmenphiahgkjkaaGreatDoor.Abs
open Go.Proofs Go.RowKit
attribute [local irreducible] bF fM aD status litValue
end Go.Proofs.YtmenphiahgkjkaaGreatDoor.Abs
