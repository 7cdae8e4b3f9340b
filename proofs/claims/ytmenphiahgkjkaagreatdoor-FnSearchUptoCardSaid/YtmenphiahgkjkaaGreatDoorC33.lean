/- ExplainLiteral's clause as separate data. -/
import Derived.Test.YtmenphiahgkjkaaGreatDoorC30
set_option linter.all false
set_option maxRecDepth 100000
set_option maxHeartbeats 4000000
namespace Go.Proofs.YtmenphiahgkjkaaGreatDoor.Abs
open Go.Proofs Go.RowKit
open Go.Proofs Go.RowKit
end Go.Proofs.YtmenphiahgkjkaaGreatDoor.Abs
