/- Contracts: logs as separate data: decisions. -/
import Derived.Test.YtglikcnmgnlejaaGreatLg
import Derived.Test.YtglikcnmgnlejaaGreatC15
set_option linter.all false
set_option maxRecDepth 20000
set_option maxHeartbeats 0
namespace Go.Proofs.YtglikcnmgnlejaaGreat.Abs
open Go.Proofs Go.RowKit
attribute [local irreducible] eY iR bV status litValue
def aai (o:Option Lg):RV:=.tup [Wh (o.getD ZB),.d (.bool o.isSome)]
theorem yD (h:Lg):aai (some h)= .tup [Wh h,.d (.bool true)]:=rfl
theorem Wo:aai none= .tup [Wh ZB,.d (.bool false)]:=rfl
end Go.Proofs.YtglikcnmgnlejaaGreat.Abs
